import Derived.Test.YtgmnnegfndpakaaGreatDoorH07
set_option maxHeartbeats 20000000
set_option maxRecDepth 100000
namespace Go.Proofs.YtgmnnegfndpakaaGreatDoor
open Go.RowKit Go.Proofs.Tryz
variable{r i R:Nat}{n:Int}{l:List aJ}{p:aJ}
theorem ahf(r n:Nat):nV r n []=n:=by cases r<;>rw[nV]
theorem ae0{n:Nat}(hp:l[i]?=p)(h:nV (r+1) n (l.drop i)=R):nV (r+1) (max n (sW r p)) (l.drop (i+1))=R:=by
 obtain⟨h1,rfl⟩:=z4.1 hp;rw[nZ h1,nV] at h;exact h
theorem ae1{n:Nat}(hm:r=0\/l.length<=i)(h:nV r n (l.drop i)=R):R=n:=by
 rcases i8 i l.length with hi | hi
 ·rw[nZ hi] at h
  cases r with
  | zero=>rw[nV] at h;exact h.symm
  | succ r=>omega
 rw[List.drop_of_length_le hi,ahf] at h;exact h.symm
theorem ae2{n:Nat}(hp:l[i]?=p)(hn:n<=40)(h:kX n (l.drop i)=R):kX (n+nY p) (l.drop (i+1))=R:=by
 obtain⟨h1,rfl⟩:=z4.1 hp;rw[nZ h1,kX,j6 hn] at h;exact h
theorem Um{n:Nat}(hm:¬n<=40\/l.length<=i)(h:kX n (l.drop i)=R):R=n:=by
 rcases i8 i l.length with hi | hi
 ·rw[nZ hi,kX,j5 zO] at h;exact h.symm
 rw[List.drop_of_length_le hi,kX] at h;exact h.symm
mutual
theorem amy:∀p:aJ,nY p<=dh p
 | .mk _ _ _ _ _ _ args=>by rw[dh,nY];exact Zv args 1
theorem Zv:∀(l:List aJ) (n:Nat),kX n l<=n+dZ l
 | [],n=>by rw[kX,dZ];omega
 | p::l,n=>by
   rw[kX,dZ];have h1:=amy p;have h2:=Zv l (n+nY p)
   split<;>omega
end
theorem ae3:∀(r:Nat) (p:aJ) (cs:List Value) (w:World) (F:Nat->Prop),au w F (aZ p) cs->r<1000->
 Rt 53 #[.agg cs.toArray,r] w (sW r p):=by
 intro r
 induction r with
 | zero=>
   intro p cs w F h hr0;obtain⟨k,mn,mx,el,ck,ns,nl,sp,A1,n1,c1,A2,n2,c2,pr,A,n,c,rfl,-,-,-,-,-,-,hn,aI⟩:=aW (au.here _ _ (jK p) h)
   have hD:sW 0 p=1:=by
    cases p with
    | mk k mn mx el cl pr args=>
      rw[sW]
      cases args with
      | nil=>rw[nV]
      | cons a l=>rw[nV]
   rw[hD];obtain⟨w1,bI,S1,lY,ai⟩:=zP1 w k mn mx el ck ns nl sp A1 n1 c1 A2 n2 c2 pr A n c;have aQ:=zH S1;have hz:decide ((0:Int)<((0:Nat):Int))=false:=rfl;have q0:=aj S1;clear S1 h;go_enter func53,ntmps53;go_wp2_with fail
   go_loopw [5,6] (λs5 s6 wr=>s5= (0:Int)/\s6= (0:Int)/\Bw w1 wr) (λ_ _ _=>0)
   case atStart=>exact⟨rfl,rfl,j9 _ _⟩
   clear q0;obtain⟨rfl,rfl,aH⟩:=hrel;have q0:=aj (ae aQ aH);by_cases hn0:0<n
   ·have jV:=zT1 ((0:Int)<(n:Int));go_wp2_with fail;(try simp only[Exit.inBlock,Exit.then]);refine Qg (v:=(1:Int)) (by simp[results,results53,go_sem]) rfl ?_;exact⟨rfl,ai.seq aH⟩
   have jV:=zT2 ((0:Int)<(n:Int));go_wp2_with fail;(try simp only[Exit.inBlock,Exit.then]);refine Qg (v:=(1:Int)) (by simp[results,results53,go_sem]) rfl ?_;exact⟨rfl,ai.seq aH⟩
 | succ r ih=>
   intro p cs w F h hr0;have rZ:=zH ih;clear ih;have bH:=au.here _ _ (jK p) h;obtain⟨k,mn,mx,el,ck,ns,nl,sp,A1,n1,c1,A2,n2,c2,pr,A,n,c,rfl,-,-,-,-,-,-,hn,aI⟩:=aW bH;obtain⟨args,wF⟩:=zF p.args;obtain⟨R,hR⟩:=zF (nV (r+1) 0 args)
   have hD:sW (r+1) p=R+1:=by
    cases p with
    | mk k mn mx el cl pr args'=>
      obtain rfl:args'=args:=wF;rw[sW,hR]
   rw[hD];rw[wF] at aI;have HR:=zH hR;have HN:Hid (n=args.length):=zH (by have:=aI.1;rwa [z8] at this);obtain⟨w1,bI,S1,lY,ai⟩:=zP1 w k mn mx el ck ns nl sp A1 n1 c1 A2 n2 c2 pr A n c;have aQ:=zH S1;have hz:decide ((0:Int)<(r:Int)+1)=true:=(by simp only[gy];omega);have hrr:((r:Int)+1) - 1=(r:Int):=zO;rw[show ((r+1:Nat):Int)=(r:Int)+1 from rfl];have q0:=aj S1;clear S1 h bH hR wF hD;go_enter func53,ntmps53;go_wp2_with fail
   go_loopw [5,6] (λs5 s6 wr=>∃i d:Nat,i<=n/\s6= i/\s5= d/\d<=r+1/\Hid (nV (r+1) d (args.drop i)=R)/\Bw w1 wr)
    (λ_ s6 _=>n - (intOf s6).toNat)
   case atStart=>exact⟨0,0,zO,rfl,rfl,zO,HR,j9 _ _⟩
   clear q0;obtain⟨i,d,hi,rfl,rfl,hdb,HL,aH⟩:=hrel;have q0:=aj (ae aQ aH);have wG:=ai.seq aH;by_cases aN:i<n
   ·obtain⟨b,off,px,v0,v1,v2,v3,v4,v5,v6,v7,v8,v9,v10,v11,HX,eG,z0,z1,z2,z3,z4,z5,z6,z7,z8,z9,nZ,og,dO⟩:=(aI.below wG).DW aN c;have jV:=zT1 (i<n);obtain⟨kx,gU,gz,gZ,ig,ik,iq,iw,iy,iC,iD,iE,iF,iG,iH,Ax,nx,cx,fJ,-⟩:=aW eG;simp only[i7,and_true] at fJ;obtain⟨rfl,rfl,rfl,rfl,rfl,rfl,rfl,rfl,rfl,rfl,rfl,rfl⟩:=fJ;have HS:=zH (ae0 HX HL);have hle:=(NC px r).2.2;obtain⟨dq,yt⟩:=zF (sW r px)
    have HC:Hid (Rt 53 #[.agg (o5 kx gU gz gZ ig ik iq iw iy iC iD iE iF iG iH Ax nx cx),r] wr dq):=zH (by
     have h:=rZ px _ wr _ eG zO
     rw[yt] at h;exact h)
    rw[yt] at HS hle;clear eG yt;go_wp2_with fail;refine HC.mono ?_;rintro e w2 ⟨rfl,ag⟩;go_wp2_with fail;go_roundw
    case rel=>exact⟨i+1,max d dq,zO,by go_num,by go_num,zO,HS,aH.seq ag⟩
    simp[intOf];omega
   have jV:=zT2 (i<n);have HE:=zH (ae1 (.inr (by have:=HN.out;omega)) HL);go_wp2_with fail;(try simp only[Exit.inBlock,Exit.then]);refine Qg (v:=((d:Int)+1:Int)) (by simp[results,results53,go_sem]) rfl ?_;exact⟨by rw[HE.out];rfl,wG⟩
mutual
def dC:aJ->Int
 | .mk k mn mx _ _ _ args=>min (wrap64 (oh (if fD k then 1 else 0) args*(if mx= -1 then wrap64 (mn+1) else mx))) 1000
def oh:Int->List aJ->Int
 | n,[]=>n
 | n,p::l=>oh (wrap64 (n+dC p)) l
end
theorem O5{R:Int}(hp:l[i]?=p)(h:oh n (l.drop i)=R):oh (wrap64 (n+dC p)) (l.drop (i+1))=R:=by
 obtain⟨h1,rfl⟩:=z4.1 hp;rw[nZ h1,oh] at h;exact h
theorem O6{R:Int}(hm:l.length<=i)(h:oh n (l.drop i)=R):R=n:=by
 rw[List.drop_of_length_le hm,oh] at h;exact h.symm
theorem ab1{v:Bool}(p:aJ)(cs:List Value)(w:World)(F:Nat->Prop)(h:au w F (aZ p) cs)(hv:fD p.kind=v):
 Rt 114 #[.agg cs.toArray] w v:=by subst hv;exact ND p cs w F h
theorem ajs:∀(p:aJ) (cs:List Value) (w:World) (F:Nat->Prop),au w F (aZ p) cs->
 Rt 52 #[.agg cs.toArray] w (dC p):=by
 intro p
 induction p using aJ.ind with
 | h k' nI mx' uo cl' pr' args ih=>
   intro cs w F h;have rZ:=zH ih;clear ih;have bH:=au.here _ _ (jK _) h;obtain⟨k,mn,mx,el,ck,ns,nl,sp,A1,n1,c1,A2,n2,c2,pr,A,n,c,rfl,hk,vH,l9,-,-,-,hn,aI⟩:=aW bH;obtain rfl:k'=k:=hk;obtain rfl:nI=mn:=vH;obtain rfl:mx'=mx:=l9;have kK:bM w (· <w) 12 (args.map aZ) A n:=aI;obtain⟨z0,QG⟩:∃z:Int,(if fD k' then 1 else 0)=z:=⟨_,rfl⟩;obtain⟨R,hR⟩:=zF (oh z0 args);have hD:dC (.mk k' nI mx' uo cl' pr' args)=min (wrap64 (R*(if mx'= -1 then wrap64 (nI+1) else mx'))) 1000:=(by rw[dC,QG,hR]);obtain⟨HD,HR⟩:=zJ2 hD hR;have HN:Hid (n=args.length):=zH (by have:=kK.1;rwa [z8] at this);obtain⟨w1,bI,S1,lY,ai⟩:=af w (Zc #[k',nI,mx',el,ck,ns,nl,sp,(A1,n1,c1),(A2,n2,c2),pr,(A,n,c)] 29);have aQ:=zH S1;have q0:=aj S1;obtain⟨lf,SS⟩:=zF (fD k');have HC0:Hid (Rt 114 #[.agg #[k',nI,mx',el,ck,ns,nl,sp,(A1,n1,c1),(A2,n2,c2),pr,(A,n,c)]] w1 lf):=zH (ab1 _ _ w1 _ (bH.below ai) SS);have HZ0:Hid (z0=if lf then 1 else 0):=zH (by rw[<-QG,SS]);clear S1 h bH hR hD aI QG SS;go_enter func52,ntmps52;go_wp2_with fail;refine HC0.mono ?_;rintro e w2 ⟨rfl,ag⟩;have gY:=zH (ae aQ ag);have aA7:=ai.seq ag;clear q0;have q0:=aj gY;go_upto_if 7 with fail
   go_cut [3] (λs3 wc=>s3= z0/\wc=w2)
   case first=>
    cases lf
    ·have hz:z0=0:=HZ0;go_wp2_with fail;go_meet;exact⟨by rw[hz],rfl⟩
    have hz:z0=1:=HZ0;go_wp2_with fail;go_meet;exact⟨by rw[hz],rfl⟩
   case rest=>
   obtain⟨rfl,rfl⟩:=hcut;go_wp2_with fail
   go_loopw [3,11] (λs3 si wr=>∃(i:Nat) (m:Int),i<=n/\si= i/\s3= m/\Hid (oh m (args.drop i)=R)/\Bw wc wr)
    (λ_ si _=>n - (intOf si).toNat)
   case atStart=>exact⟨0,z0,zO,rfl,rfl,HR,j9 _ _⟩
   clear q0;obtain⟨i,m,hi,rfl,rfl,HL,aH⟩:=hrel;have q0:=aj (ae gY aH);have wG:=aA7.seq aH;by_cases aN:i<n
   ·have jV:=zT1 (i<n);obtain⟨b,off,px,v0,v1,v2,v3,v4,v5,v6,v7,v8,v9,v10,v11,HX,eG,z0,z1,z2,z3,z4,z5,z6,z7,z8,z9,nZ,og,dO⟩:=(kK.below wG).DW aN c;obtain⟨kx,gU,gz,gZ,ig,ik,iq,iw,iy,iC,iD,iE,iF,iG,iH,Ax,nx,cx,fJ,-⟩:=aW eG;simp only[i7,and_true] at fJ;obtain⟨rfl,rfl,rfl,rfl,rfl,rfl,rfl,rfl,rfl,rfl,rfl,rfl⟩:=fJ;have HS:=zH (O5 HX HL);obtain⟨dq,yt⟩:=zF (dC px);obtain⟨wa,BK,SA,Vg,bJ⟩:=zP1 wr kx gU gz gZ ig ik iq iw iy iC iD iE iF iG iH Ax nx cx;have x0:=aj SA;have Ew:=aH.seq bJ
    have HC:Hid (Rt 52 #[.agg (o5 kx gU gz gZ ig ik iq iw iy iC iD iE iF iG iH Ax nx cx)] wa dq):=zH (by
     have h:=rZ px (SK HX) _ wa _ (au.below eG (bJ.mono (wG.size)))
     rw[yt] at h;exact h)
    rw[yt] at HS;clear eG yt SA;go_wp2_with fail;refine HC.mono ?_;rintro e w5 ⟨rfl,bg⟩;go_wp2_with fail;go_roundw
    case rel=>exact⟨i+1,_,zO,by go_num,rfl,HS,Ew.seq bg⟩
    simp[intOf];omega
   have jV:=zT2 (i<n);have HE:=zH (O6 (by have:=HN.out;omega) HL);by_cases iY:mx'= -1
   ·have gJ:(mx'== -1)=true:=(by simpa using iY);have HV:Hid (dC (.mk k' nI mx' uo cl' pr' args)=min (wrap64 (m*wrap64 (nI+1))) 1000):=zH (by rw[HD.out,HE.out,j6 iY]);clear iY;go_wp2_with fail;(try simp only[Exit.inBlock,Exit.then]);refine Qg (v:=(min (wrap64 (m*wrap64 (nI+1))) 1000:Int)) (by simp[results,results52,go_sem]) rfl ?_;exact⟨by rw[HV.out],wG⟩
   have gJ:(mx'== -1)=false:=(by simpa using iY);have HV:Hid (dC (.mk k' nI mx' uo cl' pr' args)=min (wrap64 (m*mx')) 1000):=zH (by rw[HD.out,HE.out,j5 iY]);clear iY;go_wp2_with fail;(try simp only[Exit.inBlock,Exit.then]);refine Qg (v:=(min (wrap64 (m*mx')) 1000:Int)) (by simp[results,results52,go_sem]) rfl ?_;exact⟨by rw[HV.out],wG⟩
theorem aa4:∀(p:aJ) (cs:List Value) (w:World) (F:Nat->Prop),au w F (aZ p) cs->
 Rt 16 #[.agg cs.toArray] w (dC p):=by
 intro p
 induction p using aJ.ind with
 | h k' nI mx' uo cl' pr' args ih=>
   intro cs w F h;have rZ:=zH ih;clear ih;have bH:=au.here _ _ (jK _) h;obtain⟨k,mn,mx,el,ck,ns,nl,sp,A1,n1,c1,A2,n2,c2,pr,A,n,c,rfl,hk,vH,l9,-,-,-,hn,aI⟩:=aW bH;obtain rfl:k'=k:=hk;obtain rfl:nI=mn:=vH;obtain rfl:mx'=mx:=l9;have kK:bM w (· <w) 12 (args.map aZ) A n:=aI;obtain⟨z0,QG⟩:∃z:Int,(if fD k' then 1 else 0)=z:=⟨_,rfl⟩;obtain⟨R,hR⟩:=zF (oh z0 args);have hD:dC (.mk k' nI mx' uo cl' pr' args)=min (wrap64 (R*(if mx'= -1 then wrap64 (nI+1) else mx'))) 1000:=(by rw[dC,QG,hR]);obtain⟨HD,HR⟩:=zJ2 hD hR;have HN:Hid (n=args.length):=zH (by have:=kK.1;rwa [z8] at this);obtain⟨w1,bI,S1,lY,ai⟩:=af w (Zc #[k',nI,mx',el,ck,ns,nl,sp,(A1,n1,c1),(A2,n2,c2),pr,(A,n,c)] 29);have aQ:=zH S1;have q0:=aj S1;have HZ0:=zH QG;clear h bH hR hD aI QG;go_enter func16,ntmps16;go_upto_region 2 with fail
   go_cut [13] (λQF wc=>QF= (fD k')/\wc=w1)
   case first=>
    by_cases h1:k'=1
    ·have gJ:(k'==1)=true:=(by simpa using h1);have hl:fD k'=true:=(by unfold fD;simp[h1]);go_wp2_with fail;go_meet;exact⟨by rw[hl],rfl⟩
    have gJ:(k'==1)=false:=(by simpa using h1);obtain⟨b2,ag⟩:=zF ((k'==2));have hl:fD k'=b2:=(by unfold fD;rw[<-ag,m9];simp[h1]);go_wp2_with fail;go_meet;exact⟨by rw[hl],rfl⟩
   case rest=>
   obtain⟨rfl,rfl⟩:=hcut;go_upto_if 13 with fail
   go_cut [3] (λs3 wd=>s3= z0/\wd=wc)
   case first=>
    obtain⟨lf,SS⟩:=zF (fD k');have hz:=HZ0.out;rw[SS] at hz ⊢;cases lf
    ·go_wp2_with fail;go_meet;exact⟨by rw[<-hz];rfl,rfl⟩
    go_wp2_with fail;go_meet;exact⟨by rw[<-hz];rfl,rfl⟩
   case rest=>
   obtain⟨rfl,rfl⟩:=hcut;go_wp2_with fail
   go_loopw [3,4] (λs3 si wr=>∃(i:Nat) (m:Int),i<=n/\si= i/\s3= m/\Hid (oh m (args.drop i)=R)/\Bw wc wr)
    (λ_ si _=>n - (intOf si).toNat)
   case atStart=>exact⟨0,z0,zO,rfl,rfl,HR,j9 _ _⟩
   clear q0;obtain⟨i,m,hi,rfl,rfl,HL,aH⟩:=hrel;have q0:=aj (ae aQ aH);have wG:=ai.seq aH;by_cases aN:i<n
   ·have jV:=zT1 (i<n);obtain⟨b,off,px,v0,v1,v2,v3,v4,v5,v6,v7,v8,v9,v10,v11,HX,eG,z0,z1,z2,z3,z4,z5,z6,z7,z8,z9,nZ,og,dO⟩:=(kK.below wG).DW aN c;obtain⟨kx,gU,gz,gZ,ig,ik,iq,iw,iy,iC,iD,iE,iF,iG,iH,Ax,nx,cx,fJ,-⟩:=aW eG;simp only[i7,and_true] at fJ;obtain⟨rfl,rfl,rfl,rfl,rfl,rfl,rfl,rfl,rfl,rfl,rfl,rfl⟩:=fJ;have HS:=zH (O5 HX HL);obtain⟨dq,yt⟩:=zF (dC px)
    have HC:Hid (Rt 16 #[.agg (o5 kx gU gz gZ ig ik iq iw iy iC iD iE iF iG iH Ax nx cx)] wr dq):=zH (by
     have h:=rZ px (SK HX) _ wr _ eG
     rw[yt] at h;exact h)
    rw[yt] at HS;clear eG yt;go_wp2_with fail;refine HC.mono ?_;rintro e w5 ⟨rfl,bg⟩;go_wp2_with fail;go_roundw
    case rel=>exact⟨i+1,_,zO,by go_num,rfl,HS,aH.seq bg⟩
    simp[intOf];omega
   have jV:=zT2 (i<n);have HE:=zH (O6 (by have:=HN.out;omega) HL);by_cases iY:mx'= -1
   ·have gJ:(mx'== -1)=true:=(by simpa using iY);have HV:Hid (dC (.mk k' nI mx' uo cl' pr' args)=min (wrap64 (m*wrap64 (nI+1))) 1000):=zH (by rw[HD.out,HE.out,j6 iY]);clear iY;go_wp2_with fail;(try simp only[Exit.inBlock,Exit.then]);refine Qg (v:=(min (wrap64 (m*wrap64 (nI+1))) 1000:Int)) (by simp[results,results16,go_sem]) rfl ?_;exact⟨by rw[HV.out],wG⟩
   have gJ:(mx'== -1)=false:=(by simpa using iY);have HV:Hid (dC (.mk k' nI mx' uo cl' pr' args)=min (wrap64 (m*mx')) 1000):=zH (by rw[HD.out,HE.out,j5 iY]);clear iY;go_wp2_with fail;(try simp only[Exit.inBlock,Exit.then]);refine Qg (v:=(min (wrap64 (m*mx')) 1000:Int)) (by simp[results,results16,go_sem]) rfl ?_;exact⟨by rw[HV.out],wG⟩
theorem af5:∀{l:List aJ},p∈l->vG p<=rF l
 | q::l,h=>by
   rw[rF]
   rcases TT.1 h with rfl | h
   ·omega
   have:=af5 h;omega
mutual
theorem acL:∀p:aJ,nY p<=41*vG p
 | .mk _ _ _ _ _ _ args=>by
   rw[vG,nY];have:=aah args 1 zO;omega
theorem aah:∀(l:List aJ) (n:Nat),n<=41+41*rF l->kX n l<=41+41*rF l
 | [],n,h=>by rw[kX];rw[rF] at h ⊢;exact h
 | p::l,n,h=>by
   rw[kX];rw[rF] at h ⊢;have h1:=acL p;have h2:=aah l (n+nY p)
   split
   ·rcases Nat.le_total (n+nY p) (41+41*rF l) with h3 | h3
    ·have:=h2 h3;omega
    have h4:kX (n+nY p) l=n+nY p:=by
     cases l with
     | nil=>rw[kX]
     | cons q l=>rw[kX,j5 zO]
    rw[h4];omega
   exact h
end
theorem arz(h:¬10<sW 10 p):vG p<=1000:=by
 have:=(NC p 10).2.1;omega
theorem ahy:∀(p:aJ) (cs:List Value) (w:World) (F:Nat->Prop),au w F (aZ p) cs->vG p<=1000->
 Rt 54 #[.agg cs.toArray] w (nY p):=by
 intro p
 induction p using aJ.ind with
 | h k' nI mx' uo cl' pr' args ih=>
   intro cs w F h xQ;have rZ:=zH ih;clear ih;have bH:=au.here _ _ (jK _) h;obtain⟨k,mn,mx,el,ck,ns,nl,sp,A1,n1,c1,A2,n2,c2,pr,A,n,c,rfl,-,-,-,-,-,-,hn,aI⟩:=aW bH;have kK:bM w (· <w) 12 (args.map aZ) A n:=aI;obtain⟨R,hR⟩:=zF (kX 1 args);have hD:nY (.mk k' nI mx' uo cl' pr' args)=R:=(by rw[nY,hR]);rw[hD];have HR:=zH hR;have HN:Hid (n=args.length):=zH (by have:=kK.1;rwa [z8] at this);have YI:Hid (1+rF args<=1000):=zH (by rw[vG] at xQ;exact xQ);obtain⟨w1,bI,S1,lY,ai⟩:=zP1 w k mn mx el ck ns nl sp A1 n1 c1 A2 n2 c2 pr A n c;have aQ:=zH S1;have q0:=aj S1;clear S1 h bH hR hD aI xQ;go_enter func54,ntmps54;go_wp2_with fail
   go_loopw [3,4] (λs3 s4 wr=>∃i m:Nat,i<=n/\s4= i/\s3= m/\m<=100000040/\Hid (kX m (args.drop i)=R)/\Bw w1 wr)
    (λ_ s4 _=>n - (intOf s4).toNat)
   case atStart=>exact⟨0,1,zO,rfl,rfl,zO,HR,j9 _ _⟩
   clear q0;obtain⟨i,m,hi,rfl,rfl,hmb,HL,aH⟩:=hrel;have q0:=aj (ae aQ aH);have wG:=ai.seq aH;by_cases aN:i<n
   ·have jV:=zT1 (i<n);by_cases hm:m<=40
    ·obtain⟨b,off,px,v0,v1,v2,v3,v4,v5,v6,v7,v8,v9,v10,v11,HX,eG,z0,z1,z2,z3,z4,z5,z6,z7,z8,z9,nZ,og,dO⟩:=(kK.below wG).DW aN c;have gJ:=zT1 ((m:Int)<=40);obtain⟨kx,gU,gz,gZ,ig,ik,iq,iw,iy,iC,iD,iE,iF,iG,iH,Ax,nx,cx,fJ,-⟩:=aW eG;simp only[i7,and_true] at fJ;obtain⟨rfl,rfl,rfl,rfl,rfl,rfl,rfl,rfl,rfl,rfl,rfl,rfl⟩:=fJ;have HS:=zH (ae2 HX hm HL);have Py:vG px<=1000:=(by have h1:=af5 (SK HX);have h2:=YI.out;omega);have hle:nY px<=41*vG px:=acL px;obtain⟨dq,yt⟩:=zF (nY px)
     have HC:Hid (Rt 54 #[.agg (o5 kx gU gz gZ ig ik iq iw iy iC iD iE iF iG iH Ax nx cx)] wr dq):=zH (by
      have h:=rZ px (SK HX) _ wr _ eG Py
      rw[yt] at h;exact h)
     rw[yt] at HS hle;clear eG yt;go_wp2_with fail;refine HC.mono ?_;rintro e w2 ⟨rfl,ag⟩;go_wp2_with fail;go_roundw
     case rel=>exact⟨i+1,m+dq,zO,by go_num,by go_num,zO,HS,aH.seq ag⟩
     simp[intOf];omega
    have gJ:=zT2 ((m:Int)<=40);have HE:=zH (Um (.inl hm) HL);go_wp2_with fail;(try simp only[Exit.inBlock,Exit.then]);refine Qg (v:=m) (by simp[results,results54,go_sem]) rfl ?_;exact⟨by rw[HE.out],wG⟩
   have jV:=zT2 (i<n);have HE:=zH (Um (.inr (by have:=HN.out;omega)) HL);go_wp2_with fail;(try simp only[Exit.inBlock,Exit.then]);refine Qg (v:=m) (by simp[results,results54,go_sem]) rfl ?_;exact⟨by rw[HE.out],wG⟩
