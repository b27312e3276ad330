import Derived.Test.YtgmnnegfndpakaaGreatDoorH07
set_option maxHeartbeats 20000000
set_option maxRecDepth 100000
namespace Go.Proofs.YtgmnnegfndpakaaGreatDoor
open Go.RowKit
mutual
theorem amy:∀p:aJ,nY p<=dh p
 | .mk _ _ _ _ _ _ args=>by rw[dh,nY];exact Zv args 1
theorem Zv:∀(l:List aJ) (n:Nat),kX n l<=n+dZ l
 | [],n=>by rw[kX,dZ];omega
 | p::l,n=>by
   rw[kX,dZ];have h1:=amy p;have h2:=Zv l (n+nY p)
   split<;>omega
end
mutual
def dC:aJ->Int
 | .mk k mn mx _ _ _ args=>min (wrap64 (oh (if fD k then 1 else 0) args*(if mx= -1 then wrap64 (mn+1) else mx))) 1000
def oh:Int->List aJ->Int
 | n,[]=>n
 | n,p::l=>oh (wrap64 (n+dC p)) l
end
theorem O5{n:Int}{i:Nat}{l:List aJ}{p:aJ}{R:Int}(hp:l[i]?=some p)(h:oh n (l.drop i)=R):oh (wrap64 (n+dC p)) (l.drop (i+1))=R:=by
 obtain⟨h1,rfl⟩:=z4.1 hp;rw[nZ h1,oh] at h;exact h
theorem O6{n:Int}{i:Nat}{l:List aJ}{R:Int}(hm:l.length<=i)(h:oh n (l.drop i)=R):R=n:=by
 rw[List.drop_of_length_le hm,oh] at h;exact h.symm
theorem ab1{v:Bool}(p:aJ)(cs:List Value)(w:World)(F:Nat->Prop)(h:au w F (aZ p) cs)(hv:fD p.kind=v):
 Rt 114 #[.agg cs.toArray] w (.bool v):=by subst hv;exact ND p cs w F h
theorem ajs:∀(p:aJ) (cs:List Value) (w:World) (F:Nat->Prop),au w F (aZ p) cs->
 Rt 52 #[.agg cs.toArray] w (.int .i64 (dC p)):=by
 intro p
 induction p using aJ.ind with
 | h k' nI mx' uo cl' pr' args ih=>
   intro cs w F h;have rZ:=zH ih;clear ih;have bH:=au.here _ _ (jK _) h;obtain⟨k,mn,mx,el,ck,ns,nl,sp,A1,n1,c1,A2,n2,c2,pr,A,n,c,rfl,hk,vH,l9,-,-,-,hn,aI⟩:=aW bH;obtain rfl:k'=k:=hk;obtain rfl:nI=mn:=vH;obtain rfl:mx'=mx:=l9;have kK:bM w (· <w.heap.size) 12 (args.map aZ) A n:=aI;obtain⟨z0,QG⟩:∃z:Int,(if fD k' then 1 else 0)=z:=⟨_,rfl⟩;obtain⟨R,hR⟩:=zF (oh z0 args);have hD:dC (.mk k' nI mx' uo cl' pr' args)=min (wrap64 (R*(if mx'= -1 then wrap64 (nI+1) else mx'))) 1000:=(by rw[dC,QG,hR]);have HD:=zH hD;have HR:=zH hR;have HN:Hid (n=args.length):=zH (by have:=kK.1;rwa [z8] at this);obtain⟨w1,bI,S1,lY,ai⟩:=af w (.cells #[.int .i64 k',.int .i64 nI,.int .i64 mx',.int .i64 el,.int .i64 ck,.string ns,.string nl,.string sp,.slice A1 n1 c1,.slice A2 n2 c2,.int .i64 pr,.slice A n c] 29);have aQ:=zH S1;have q0:=aj S1;obtain⟨lf,SS⟩:=zF (fD k');have HC0:Hid (Rt 114 #[.agg #[.int .i64 k',.int .i64 nI,.int .i64 mx',.int .i64 el,.int .i64 ck,.string ns,.string nl,.string sp,.slice A1 n1 c1,.slice A2 n2 c2,.int .i64 pr,.slice A n c]] w1 (.bool lf)):=zH (ab1 _ _ w1 _ (bH.below ai) SS);have HZ0:Hid (z0=if lf then 1 else 0):=zH (by rw[<-QG,SS]);clear S1 h bH hR hD aI QG SS;go_enter Tryz.func52,Tryz.ntmps52;go_wp2_with fail;refine HC0.out.mono ?_;rintro e w2 ⟨rfl,ag⟩;have gY:=zH (ae aQ.out ag);have aA7:=ai.seq ag;clear q0;have q0:=aj gY.out;go_upto_if 7 with fail
   go_cut [3] (λs3 wc=>s3= .int .i64 z0/\wc=w2)
   case first=>
    cases lf
    ·have hz:z0=0:=HZ0.out;go_wp2_with fail;go_meet;exact⟨by rw[hz],rfl⟩
    have hz:z0=1:=HZ0.out;go_wp2_with fail;go_meet;exact⟨by rw[hz],rfl⟩
   case rest=>
   obtain⟨rfl,rfl⟩:=hcut;go_wp2_with fail
   go_loopw [3,11] (λs3 si wr=>∃(i:Nat) (m:Int),i<=n/\si= .int .i64 i/\s3= .int .i64 m/\Hid (oh m (args.drop i)=R)/\Bw wc wr)
    (λ_ si _=>n - (intOf si).toNat)
   case atStart=>exact⟨0,z0,zO,rfl,rfl,HR,Below.refl _ _⟩
   clear q0;obtain⟨i,m,hi,rfl,rfl,HL,aH⟩:=hrel;have q0:=aj (ae gY.out aH);have wG:=aA7.seq aH;by_cases aN:i<n
   ·have jV:decide (i<n)=true:=(by simp;omega);obtain⟨b,off,px,v0,v1,v2,v3,v4,v5,v6,v7,v8,v9,v10,v11,HX,eG,z0,z1,z2,z3,z4,z5,z6,z7,z8,z9,nZ,og,dO⟩:=(kK.below wG).DW aN c;obtain⟨kx,gU,gz,gZ,ig,ik,iq,iw,iy,iC,iD,iE,iF,iG,iH,Ax,nx,cx,fJ,-⟩:=aW eG;simp only[List.cons.injEq,and_true] at fJ;obtain⟨rfl,rfl,rfl,rfl,rfl,rfl,rfl,rfl,rfl,rfl,rfl,rfl⟩:=fJ;have HS:=zH (O5 HX.out HL.out);obtain⟨dq,yt⟩:=zF (dC px);obtain⟨wa,BK,SA,Vg,bJ⟩:=af wr (.cells #[.int .i64 kx,.int .i64 gU,.int .i64 gz,.int .i64 gZ,.int .i64 ig,.string ik,.string iq,.string iw,.slice iy iC iD,.slice iE iF iG,.int .i64 iH,.slice Ax nx cx] 29);have x0:=aj SA;have Ew:=aH.seq bJ
    have HC:Hid (Rt 52 #[.agg (o5 kx gU gz gZ ig ik iq iw iy iC iD iE iF iG iH Ax nx cx)] wa (.int .i64 dq)):=zH (by
     have h:=rZ.out px (SK HX.out) _ wa _ (au.below eG (bJ.mono (wG.size)))
     rw[yt] at h;exact h)
    rw[yt] at HS;clear eG yt SA;go_wp2_with fail;refine HC.out.mono ?_;rintro e w5 ⟨rfl,bg⟩;go_wp2_with fail;go_roundw
    case rel=>exact⟨i+1,_,zO,by go_num,rfl,HS,Ew.seq bg⟩
    simp[intOf];omega
   have jV:decide (i<n)=false:=(by simp;omega);have HE:=zH (O6 (by have:=HN.out;omega) HL.out);by_cases iY:mx'= -1
   ·have gJ:(mx'== -1)=true:=(by simpa using iY);have HV:Hid (dC (.mk k' nI mx' uo cl' pr' args)=min (wrap64 (m*wrap64 (nI+1))) 1000):=zH (by rw[HD.out,HE.out,if_pos iY]);clear iY;go_wp2_with fail;(try simp only[Exit.inBlock,Exit.then]);refine bodyPost_ret (v:=.int .i64 (min (wrap64 (m*wrap64 (nI+1))) 1000)) (by simp[results,Tryz.results52,go_sem]) rfl ?_;exact⟨by rw[HV.out],wG⟩
   have gJ:(mx'== -1)=false:=(by simpa using iY);have HV:Hid (dC (.mk k' nI mx' uo cl' pr' args)=min (wrap64 (m*mx')) 1000):=zH (by rw[HD.out,HE.out,if_neg iY]);clear iY;go_wp2_with fail;(try simp only[Exit.inBlock,Exit.then]);refine bodyPost_ret (v:=.int .i64 (min (wrap64 (m*mx')) 1000)) (by simp[results,Tryz.results52,go_sem]) rfl ?_;exact⟨by rw[HV.out],wG⟩
theorem aa4:∀(p:aJ) (cs:List Value) (w:World) (F:Nat->Prop),au w F (aZ p) cs->
 Rt 16 #[.agg cs.toArray] w (.int .i64 (dC p)):=by
 intro p
 induction p using aJ.ind with
 | h k' nI mx' uo cl' pr' args ih=>
   intro cs w F h;have rZ:=zH ih;clear ih;have bH:=au.here _ _ (jK _) h;obtain⟨k,mn,mx,el,ck,ns,nl,sp,A1,n1,c1,A2,n2,c2,pr,A,n,c,rfl,hk,vH,l9,-,-,-,hn,aI⟩:=aW bH;obtain rfl:k'=k:=hk;obtain rfl:nI=mn:=vH;obtain rfl:mx'=mx:=l9;have kK:bM w (· <w.heap.size) 12 (args.map aZ) A n:=aI;obtain⟨z0,QG⟩:∃z:Int,(if fD k' then 1 else 0)=z:=⟨_,rfl⟩;obtain⟨R,hR⟩:=zF (oh z0 args);have hD:dC (.mk k' nI mx' uo cl' pr' args)=min (wrap64 (R*(if mx'= -1 then wrap64 (nI+1) else mx'))) 1000:=(by rw[dC,QG,hR]);have HD:=zH hD;have HR:=zH hR;have HN:Hid (n=args.length):=zH (by have:=kK.1;rwa [z8] at this);obtain⟨w1,bI,S1,lY,ai⟩:=af w (.cells #[.int .i64 k',.int .i64 nI,.int .i64 mx',.int .i64 el,.int .i64 ck,.string ns,.string nl,.string sp,.slice A1 n1 c1,.slice A2 n2 c2,.int .i64 pr,.slice A n c] 29);have aQ:=zH S1;have q0:=aj S1;have HZ0:=zH QG;clear h bH hR hD aI QG;go_enter Tryz.func16,Tryz.ntmps16;go_upto_region 2 with fail
   go_cut [13] (λQF wc=>QF= .bool (fD k')/\wc=w1)
   case first=>
    by_cases h1:k'=1
    ·have gJ:(k'==1)=true:=(by simpa using h1);have hl:fD k'=true:=(by unfold fD;simp[h1]);go_wp2_with fail;go_meet;exact⟨by rw[hl],rfl⟩
    have gJ:(k'==1)=false:=(by simpa using h1);obtain⟨b2,ag⟩:=zF ((k'==2));have hl:fD k'=b2:=(by unfold fD;rw[<-ag,Bool.eq_iff_iff];simp[h1]);go_wp2_with fail;go_meet;exact⟨by rw[hl],rfl⟩
   case rest=>
   obtain⟨rfl,rfl⟩:=hcut;go_upto_if 13 with fail
   go_cut [3] (λs3 wd=>s3= .int .i64 z0/\wd=wc)
   case first=>
    obtain⟨lf,SS⟩:=zF (fD k');have hz:=HZ0.out;rw[SS] at hz ⊢;cases lf
    ·go_wp2_with fail;go_meet;exact⟨by rw[<-hz];rfl,rfl⟩
    go_wp2_with fail;go_meet;exact⟨by rw[<-hz];rfl,rfl⟩
   case rest=>
   obtain⟨rfl,rfl⟩:=hcut;go_wp2_with fail
   go_loopw [3,4] (λs3 si wr=>∃(i:Nat) (m:Int),i<=n/\si= .int .i64 i/\s3= .int .i64 m/\Hid (oh m (args.drop i)=R)/\Bw wc wr)
    (λ_ si _=>n - (intOf si).toNat)
   case atStart=>exact⟨0,z0,zO,rfl,rfl,HR,Below.refl _ _⟩
   clear q0;obtain⟨i,m,hi,rfl,rfl,HL,aH⟩:=hrel;have q0:=aj (ae aQ.out aH);have wG:=ai.seq aH;by_cases aN:i<n
   ·have jV:decide (i<n)=true:=(by simp;omega);obtain⟨b,off,px,v0,v1,v2,v3,v4,v5,v6,v7,v8,v9,v10,v11,HX,eG,z0,z1,z2,z3,z4,z5,z6,z7,z8,z9,nZ,og,dO⟩:=(kK.below wG).DW aN c;obtain⟨kx,gU,gz,gZ,ig,ik,iq,iw,iy,iC,iD,iE,iF,iG,iH,Ax,nx,cx,fJ,-⟩:=aW eG;simp only[List.cons.injEq,and_true] at fJ;obtain⟨rfl,rfl,rfl,rfl,rfl,rfl,rfl,rfl,rfl,rfl,rfl,rfl⟩:=fJ;have HS:=zH (O5 HX.out HL.out);obtain⟨dq,yt⟩:=zF (dC px)
    have HC:Hid (Rt 16 #[.agg (o5 kx gU gz gZ ig ik iq iw iy iC iD iE iF iG iH Ax nx cx)] wr (.int .i64 dq)):=zH (by
     have h:=rZ.out px (SK HX.out) _ wr _ eG
     rw[yt] at h;exact h)
    rw[yt] at HS;clear eG yt;go_wp2_with fail;refine HC.out.mono ?_;rintro e w5 ⟨rfl,bg⟩;go_wp2_with fail;go_roundw
    case rel=>exact⟨i+1,_,zO,by go_num,rfl,HS,aH.seq bg⟩
    simp[intOf];omega
   have jV:decide (i<n)=false:=(by simp;omega);have HE:=zH (O6 (by have:=HN.out;omega) HL.out);by_cases iY:mx'= -1
   ·have gJ:(mx'== -1)=true:=(by simpa using iY);have HV:Hid (dC (.mk k' nI mx' uo cl' pr' args)=min (wrap64 (m*wrap64 (nI+1))) 1000):=zH (by rw[HD.out,HE.out,if_pos iY]);clear iY;go_wp2_with fail;(try simp only[Exit.inBlock,Exit.then]);refine bodyPost_ret (v:=.int .i64 (min (wrap64 (m*wrap64 (nI+1))) 1000)) (by simp[results,Tryz.results16,go_sem]) rfl ?_;exact⟨by rw[HV.out],wG⟩
   have gJ:(mx'== -1)=false:=(by simpa using iY);have HV:Hid (dC (.mk k' nI mx' uo cl' pr' args)=min (wrap64 (m*mx')) 1000):=zH (by rw[HD.out,HE.out,if_neg iY]);clear iY;go_wp2_with fail;(try simp only[Exit.inBlock,Exit.then]);refine bodyPost_ret (v:=.int .i64 (min (wrap64 (m*mx')) 1000)) (by simp[results,Tryz.results16,go_sem]) rfl ?_;exact⟨by rw[HV.out],wG⟩
mutual
theorem acL:∀p:aJ,nY p<=41*vG p
 | .mk _ _ _ _ _ _ args=>by
   rw[vG,nY];have:=aah args 1 zO;omega
theorem aah:∀(l:List aJ) (n:Nat),n<=41+41*rF l->kX n l<=41+41*rF l
 | [],n,h=>by rw[kX];rw[rF] at h ⊢;exact h
 | p::l,n,h=>by
   rw[kX];rw[rF] at h ⊢;have h1:=acL p;have h2:=aah l (n+nY p)
   split
   ·rcases Nat.le_total (n+nY p) (41+41*rF l) with h3 | h3
    ·have:=h2 h3;omega
    have h4:kX (n+nY p) l=n+nY p:=by
     cases l with
     | nil=>rw[kX]
     | cons q l=>rw[kX,if_neg zO]
    rw[h4];omega
   exact h
end
