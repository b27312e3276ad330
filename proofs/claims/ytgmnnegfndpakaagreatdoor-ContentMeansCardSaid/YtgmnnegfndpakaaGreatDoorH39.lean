import Derived.Test.YtgmnnegfndpakaaGreatDoorH34
import Derived.Test.YtgmnnegfndpakaaGreatDoorH37
import Derived.Test.YtgmnnegfndpakaaGreatDoorH35
set_option maxHeartbeats 20000000
set_option maxRecDepth 100000
namespace Go.Proofs.YtgmnnegfndpakaaGreatDoor
open Go.RowKit
theorem aJu:∀(p:aJ) (cs:List Value) (w:World) (F:Nat->Prop),au w F (aZ p) cs->
 Cl 21 #[.agg cs.toArray] w λe w'=>ayD e/\Bw w w':=by
 intro p
 induction p using aJ.ind with
 | h k' nI mx' uo cl' pr' args ih=>
   intro cs w F h;have rZ:=zH ih;clear ih;have bH:=au.here _ _ (jK _) h;obtain⟨k,mn,mx,el,ck,ns,nl,sp,A1,n1,c1,A2,n2,c2,pr,A,n,c,rfl,-,-,-,-,-,-,hn,aI⟩:=aW bH;have kK:bM w (· <w.heap.size) 12 (args.map aZ) A n:=aI;obtain⟨w1,bI,S1,lY,ai⟩:=af w (.cells #[.int .i64 k,.int .i64 mn,.int .i64 mx,.int .i64 el,.int .i64 ck,.string ns,.string nl,.string sp,.slice A1 n1 c1,.slice A2 n2 c2,.int .i64 pr,.slice A n c] 29);have aQ:=zH S1;have nK:=zH ai;have lM:=zH kK;have q0:=aj S1;clear S1 h bH aI kK ai;go_enter Tryz.func21,Tryz.ntmps21;by_cases h3:3<mn
   ·have jV:decide (3<mn)=true:=(by simpa using h3);go_wp2_with fail;go_ret;exact⟨⟨_,rfl⟩,nK.out⟩
   have jV:decide (3<mn)=false:=(by simpa using h3);clear h3;go_wp2_with fail
   go_loopw [3,4] (λs3 s4 wr=>∃(i:Nat) (m:Int),i<=n/\s4= .int .i64 i/\s3= .int .i64 m/\Bw w1 wr)
    (λ_ s4 _=>n - (intOf s4).toNat)
   case atStart=>exact⟨0,_,zO,rfl,rfl,Below.refl _ _⟩
   obtain⟨i,m,hi,rfl,rfl,dU⟩:=hrel;clear q0;have q0:=aj (ae aQ.out dU);have aH:Bw w wr:=nK.out.seq dU;have HBR:=zH dU;have nG:=zH aH;by_cases aN:i<n
   ·have gJ:decide (i<n)=true:=(by simp;omega);obtain⟨b,off,px,v0,v1,v2,v3,v4,v5,v6,v7,v8,v9,v10,v11,HX,eG,z0,z1,z2,z3,z4,z5,z6,z7,z8,z9,nZ,og,dO⟩:=(lM.out.below aH).DW aN c;obtain⟨kx,gU,gz,gZ,ig,ik,iq,iw,iy,iC,iD,iE,iF,iG,iH,Ax,nx,cx,fJ,-⟩:=aW eG;simp only[List.cons.injEq,and_true] at fJ;obtain⟨rfl,rfl,rfl,rfl,rfl,rfl,rfl,rfl,rfl,rfl,rfl,rfl⟩:=fJ;have HC:=zH (rZ.out px (z13 HX.out) _ wr _ eG);clear eG dU aH;go_wp2_with fail;refine HC.out.mono ?_;rintro e w2 ⟨⟨b2,rfl⟩,ag⟩;clear q0;have q0:=aj (ae aQ.out (HBR.out.seq ag));have y11:=(ag.cell (p:=⟨b,off+i*12+11,none⟩) (World.block_lt_of_cell? _ _ og)).trans og;clear z0 z1 z2 z3 z4 z5 z6 z7 z8 z9 nZ og;cases b2
    ·go_wp2_with fail;go_roundw
     case rel=>exact⟨i+1,_,zO,by go_num,rfl,HBR.out.seq ag⟩
     simp[intOf];omega
    go_wp2_with fail;go_ret;exact⟨⟨_,rfl⟩,nG.out.seq ag⟩
   have gJ:decide (i<n)=false:=(by simp;omega);go_wp2_with fail;go_ret;exact⟨⟨_,rfl⟩,aH⟩
theorem aAu{w:World}{base:Nat}{l:List Nat}{v:Value}:ax w base 3 1 qf (l.map λx:Nat=>(x:Int)) v↔ax w base 3 1 aV l v:=by
 unfold ax;rw[List.length_map,List.flatMap_map];exact Iff.rfl
theorem aJN{w:World}{base g:Nat}(h:w.heap[g]?=some (.cells #[] 3 (0,0)))(hg:base<=g):ax w base 3 1 aV ([]:List Nat) (.slice (some ⟨g,0,none⟩) 0 0):=
 ⟨zP,.inr ⟨g,0,#[],rfl,hg,h,zR _,by unfold maxLen;omega,zP,zP⟩⟩
theorem asn{l:List aJ}{got:List Nat}{i:Nat}{p:aJ}{g:Nat}(hp:l[i]?=some p)(hg:got[i]?=some g)(h:¬(p.mn<=(g:Int)/\(g:Int)<=p.mx)):¬auq l got i:=λhh=>h (hh i p g (zR _) hp hg)
theorem aNb(elems:List (List Nm))(l:List aJ)(hl:∀x∈l,xE elems x/\x.mx<=1000)(hll:l.length<=1000):∀(u:List Nm) (got:List Nat) (w:World) (A:Option Addr) (n c:Nat) (eA:Option Addr) (en ec:Nat) (alH:Option Addr) (un uc:Nat) (gA:Option Addr) (gn gc:Nat),got.length=l.length->(∀g∈got,g<=1000)->
 bM w (· <w.heap.size) 12 (l.map aZ) A n->bM w (· <w.heap.size) 1 (elems.map nU) eA en->aY w (· <w.heap.size) 2 dK u alH un->un<6000000000000->un<=uc->aY w (· <w.heap.size) 1 aV got gA gn->
 Rt 175 #[.slice A n c,.slice eA en ec,.slice alH un uc,.slice gA gn gc] w (.bool (aaU (adA (Gf elems) l u got))):=by
 intro u
 induction u with
 | nil=>
   intro got w A n c eA en ec alH un uc gA gn gc zV lV hA hE hu JL huc hg;have hul:un=0:=hu.1;subst hul;have hlen:n=l.length:=(by have:=hA.1;rwa [List.length_map] at this);have HGN:Hid (gn=n):=zH (by rw[hg.1,zV,hlen]);have gX:n<=1000:=(by omega);obtain⟨R,hR⟩:=zF (aaU (adA (Gf elems) l [] got));rw[hR];have HF0:Hid (aaU (auq l got 0)=R):=zH (by rw[<-hR];exact(adn (aMF _ _ _)).symm);have HA:=zH hA;have HG:=zH hg;have pR:=zH hlen;have HGL:=zH zV;clear hR hA hE hu hg hlen zV lV hl;go_enter Tryz.func175,Tryz.ntmps175;go_wp2_with fail
   go_loopw [9] (λs9 W=>∃i:Nat,i<=n/\s9= .int .i64 i/\Hid (aaU (auq l got i)=R)/\Bw w W) (λs9 _=>n - (intOf s9).toNat)
   case atStart=>exact⟨0,zO,rfl,HF0,Below.refl _ _⟩
   obtain⟨i,hi,rfl,HF,dU⟩:=hrel;by_cases aN:i<n
   ·have hd:decide ((i:Int)<(n:Int))=true:=(by simp;omega);obtain⟨b,off,px,v0,v1,v2,v3,v4,v5,v6,v7,v8,v9,v10,v11,HX,eG,z0,z1,z2,z3,z4,z5,z6,z7,z8,z9,nZ,og,dO⟩:=(HA.out.keepW dU).DW aN c;obtain⟨k3,mn3,J3,el3,ck3,ns3,nl3,sp3,B1,m1,d1,B2,m2,d2,pr3,B,m,d,fJ,bW,acK,Rn,-⟩:=aW eG;simp only[List.cons.injEq,and_true] at fJ;obtain⟨rfl,rfl,rfl,rfl,rfl,rfl,rfl,rfl,rfl,rfl,rfl,rfl⟩:=fJ;obtain⟨gb,aM7,g,HGX,aQg,Ec⟩:=(HG.out.keepW dU).nat (i:=i) (by rw[HGN.out];exact aN) gc;have aAx:=HGX.out;have aQ:=zH eG;clear eG bW;by_cases h1:(g:Int)<mn3
    ·have gJ:decide ((g:Int)<mn3)=true:=(by simpa using h1);have HX2:Hid (R=false):=zH (by rw[<-HF.out];exact aeT (asn HX.out HGX.out zO));clear h1 acK Rn aAx;go_wp2_with fail
     go_quiet (fail)
     go_wp2_with fail;go_ret;exact⟨(by rw[HX2.out];rfl),dU.drewN _⟩
    have gJ:decide ((g:Int)<mn3)=false:=(by simpa using h1);by_cases h2:J3<(g:Int)
    ·have jc:decide (J3<(g:Int))=true:=(by simpa using h2);have HX2:Hid (R=false):=zH (by rw[<-HF.out];exact aeT (asn HX.out HGX.out zO));clear h1 h2 acK Rn aAx;go_wp2_with fail
     go_quiet (fail)
     go_wp2_with fail;go_ret;exact⟨(by rw[HX2.out];rfl),dU.drewN _⟩
    have jc:decide (J3<(g:Int))=false:=(by simpa using h2);have HX2:Hid (aaU (auq l got (i+1))=R):=zH (by rw[<-HF.out];exact(adn (aMj HX.out HGX.out zO)).symm);clear h1 h2 acK Rn aAx;go_wp2_with fail
    go_quiet (fail)
    go_wp2_with fail;go_roundw
    case rel=>exact⟨i+1,zO,by go_num,HX2,dU.drewN _⟩
    simp[intOf];omega
   obtain rfl:i=n:=(by omega);have hd:decide ((i:Int)<(i:Int))=false:=(by simp);obtain rfl:true=R:=(by rw[<-HF.out,pR.out];exact(acE aME).symm);go_wp2_with fail;go_ret;exact⟨rfl,dU⟩
 | cons nm u ih=>
   intro got w A n c eA en ec alH un uc gA gn gc zV lV hA hE hu JL huc hg;have hul:un=u.length+1:=hu.1;have hlen:n=l.length:=(by have:=hA.1;rwa [List.length_map] at this);have HGN:Hid (gn=n):=zH (by rw[hg.1,zV,hlen]);have gX:n<=1000:=(by omega);obtain⟨R,hR⟩:=zF (aaU (adA (Gf elems) l (nm::u) got));rw[hR];have HF0:Hid (aaU (aup (Gf elems) l nm u got 0)=R):=zH (by rw[<-hR];exact(adn (aMC _ _ _ _ _)).symm);have HA:=zH hA;have HE:=zH hE;have HU:=zH hu;have HG:=zH hg;have pR:=zH hlen;have HGL:=zH zV;have HUL:=zH hul;have XH:=zH lV;have HLF:=zH hl;have HLL:=zH hll;have rZ:=zH ih;have jV:decide ((un:Int)=0)=false:=(by simp;omega);have aTx:((un:Int)==0)=false:=(by simp;omega);clear hR hA hE hu hg hlen zV hul lV hl hll ih;go_enter Tryz.func175,Tryz.ntmps175;go_wp2_with fail
   go_loopw [10] (λs10 W=>∃i:Nat,i<=n/\s10= .int .i64 i/\Hid (aaU (aup (Gf elems) l nm u got i)=R)/\Bw w W) (λs10 _=>n - (intOf s10).toNat)
   case atStart=>exact⟨0,zO,rfl,HF0,Below.refl _ _⟩
   obtain⟨i,hi,rfl,HF,dU⟩:=hrel;by_cases aN:i<n
   ·have hd:decide ((i:Int)<(n:Int))=true:=(by simp;omega);obtain⟨b,off,px,v0,v1,v2,v3,v4,v5,v6,v7,v8,v9,v10,v11,HX,eG,z0,z1,z2,z3,z4,z5,z6,z7,z8,z9,nZ,og,dO⟩:=(HA.out.keepW dU).DW aN c;obtain⟨k3,mn3,J3,el3,ck3,ns3,nl3,sp3,B1,m1,d1,B2,m2,d2,pr3,B,m,d,fJ,bW,acK,Rn,-⟩:=aW eG;simp only[List.cons.injEq,and_true] at fJ;obtain⟨rfl,rfl,rfl,rfl,rfl,rfl,rfl,rfl,rfl,rfl,rfl,rfl⟩:=fJ;obtain⟨gb,aM7,g,HGX,aQg,Ec⟩:=(HG.out.keepW dU).nat (i:=i) (by rw[HGN.out];exact aN) gc;obtain⟨ub,aQh,x1,x2,HN,n0,n1,hux⟩:=aY.name ((HU.out.keepW dU)) (i:=0) (by have:=HUL.out;omega) uc;obtain rfl:nm=(x1,x2):=zI HN.out;simp only[Nat.zero_mul,Nat.add_zero] at n0 n1;have aQi:∀W,(Instr.indexAt 37 (.slice alH un uc) (.int .i64 0)).run Tryz.prog W= .ok (.pointer (some ⟨ub,aQh,none⟩)) W:=(by simpa using hux);clear hux;obtain⟨b1,ai⟩:=zF (Gf elems px (x1,x2))
    have at7:Hid (∀W,Bw wr W->Rt 36 #[.agg (o5 k3 mn3 J3 el3 ck3 ns3 nl3 sp3 B1 m1 d1 B2 m2 d2 pr3 B m d),.slice eA en ec,.agg #[.string x1,.string x2]] W (.bool b1)):=zH λW hW=>by
     rw[<-ai];exact aEE elems px _ eA en ec x1 x2 W (eG.keepW hW) (HE.out.keepW (dU.seq hW)) (HLF.out px (z13 HX.out)).1
    obtain⟨b2,ag⟩:=zF (decide ((g:Int)<J3));have HBR:=zH dU;have nK:=zH ai;have DU:Hid (decide ((g:Int)<px.mx)=b2):=zH (by rw[Rn];exact ag);have s0:=Since.cell z0;have s1:=Since.cell z1;have s2:=Since.cell z2;have s3:=Since.cell z3;have s4:=Since.cell z4;have s5:=Since.cell z5;have s6:=Since.cell z6;have s7:=Since.cell z7;have s8:=Since.cell z8;have s9:=Since.cell z9;have s10:=Since.cell nZ;have UQ:=Since.cell og;have s12:=Since.cell n0;have QF:=Since.cell n1;have s14:=Since.cell aQg;clear ai eG bW acK Rn;go_wp2_with fail;cases b1
    ·refine yh zK zK ?_
     repeat (go_big_quiet_step (first | (go_at_call 36;exact Eo (at7.out _ (Since.below _)))))
     refine wpQuiet_nil ?_;intro wq hq;have Xo:=Ap hq;clear hq;have HX2:Hid (aaU (aup (Gf elems) l (x1,x2) u got (i+1))=R):=zH (by rw[<-HF.out];exact(adn (aMi HX.out HGX.out (by rw[nK.out];simp))).symm);go_wp2_with fail;go_roundw
     case rel=>exact⟨i+1,zO,by go_num,HX2,HBR.out.seq Xo⟩
     simp[intOf];omega
    refine yh zK zK ?_
    repeat (go_big_quiet_step (first | (go_at_call 36;exact Eo (at7.out _ (Since.below _)))))
    refine wpQuiet_nil ?_;intro wq hq;have Xo:=Ap hq;clear hq;cases b2
    ·have HX2:Hid (aaU (aup (Gf elems) l (x1,x2) u got (i+1))=R):=zH (by rw[<-HF.out];exact(adn (aMi HX.out HGX.out (by have:=DU.out;simp at this;omega))).symm);go_wp2_with fail;go_roundw
     case rel=>exact⟨i+1,zO,by go_num,HX2,HBR.out.seq Xo⟩
     simp[intOf];omega
    have hgm:(g:Int)<px.mx:=(by simpa using DU.out);have l9:=(HLF.out px (z13 HX.out)).2;obtain⟨b3,az⟩:=zF (aaU (adA (Gf elems) l u (got.set i (g+1))));have aH:Bw w wq:=HBR.out.seq Xo;obtain⟨w1,bI,S1,nC,QZ⟩:=af wq (.cells #[] 3);have dV:ax w1 wq.heap.size 3 1 aV ([]:List Nat) (.slice (some ⟨wq.heap.size,0,none⟩) 0 0):=aJN S1 (zR _);have fO:aY w1 (· <w.heap.size) 1 aV got gA gn:=HG.out.keep λb hb=>⟨hb,(aH.seq QZ).block b hb⟩;obtain⟨fA,fn,fc,w2,bG,rO,qo,dm⟩:=EF w1 wq.heap.size [] got _ _ _ dV gA gn gc _ fO (by rw[HGL.out];have:=HLL.out;simp;omega) zO 58;simp only[List.nil_append] at rO;have Gj:Bw wq w2:=QZ.trans (grown_below dV zO qo);obtain⟨IU,-⟩:=rO.F5;have hig:i<got.length:=(by rw[HGL.out,<-pR.out];exact aN);obtain⟨g2,x,HXX,hob,-,hcv,-⟩:=rO.abr IU.symm (i:=i) (by rw[IU];exact hig);obtain⟨gg,cap,e3,hg3,CY,Pg,hfz,-,Vd,Tc⟩:=(aAu.2 rO).setInt (i:=i) (by rw[List.length_map];exact hig) ((g:Int)+1);obtain rfl:g2=gg:=zI (hob.symm.trans Pg);obtain rfl:g=x:=zI (HGX.out.symm.trans HXX.out);obtain⟨w3,vU⟩:=zF (w2.setCell ⟨g2,i,none⟩ (.int .i64 ((g:Int)+1)));have Ep:Bw w w3:=(by rw[<-vU];exact(aH.seq Gj).setCell (p:=⟨g2,i,none⟩) (show w.heap.size<=g2 by have:=aH.size;omega) _)
    have hr3:aY w3 (· <w3.heap.size) 1 aV (got.set i (g+1)) fA fn:=by
     rw[vU] at Tc;have e:(got.map λx:Nat=>(x:Int)).set i ((g:Int)+1)=(got.set i (g+1)).map λx:Nat=>(x:Int):=(by rw[List.map_set];rfl);rw[e] at Tc;exact(aAu.1 Tc).F5.2
    have aM8:Hid (Rt 175 #[.slice A n c,.slice eA en ec,.slice (if uc=1 then alH else alH.map (·.add (1*2))) (un - 1) (uc - 1),.slice fA fn fc] w3 (.bool b3)):=zH (by
     rw[<-az]
     exact rZ.out _ w3 A n c eA en ec _ _ _ fA fn fc (by rw[List.length_set];exact HGL.out) (λx hx=>by
      rcases List.mem_or_eq_of_mem_set hx with h | h
      ·exact XH.out x h
      have:=(HLF.out px (z13 HX.out)).2;omega) (HA.out.keepW Ep) (HE.out.keepW Ep) (by have:=(HU.out.keepW Ep).lo (i:=1) (c:=uc) (by have:=HUL.out;omega) huc;exact this) zO zO hr3)
    have hu1:(1:Int)<=(un:Int):=(by have:=HUL.out;omega);have hu2:(1:Int)<=(uc:Int):=(by omega);have hwr:IntKind.i64.wrap ((g:Int)+1)=(g:Int)+1:=(by rw[IntKind.wrap_i64];omega);obtain⟨uB,huB⟩:=zF ((if uc=1 then alH else alH.map (·.add (1*2))));rw[huB] at aM8;have aTr:(if uc=1 then alH else alH.map λx=>(⟨x.block,x.off+2,none⟩:Addr))=uB:=huB;have qB:=zH bG;have anO:=zH Ep;have lX:=zH az;clear bG Ep az hr3 Tc rO qo dm dV fO QZ Gj hg3 CY Pg e3 hob IU hgm l9 S1 nC
    go_wp2_with (at_builtin;refine wO rfl (.tmp 70) (.tmp 71) 58 rfl (v1:=.slice (some ⟨wq.heap.size,0,none⟩) 0 0) (v2:=.slice gA gn gc) rfl rfl qB.out ?_)
    refine aM8.out.mono ?_;rintro e w4 ⟨rfl,aX⟩;cases b3
    ·have HX2:Hid (aaU (aup (Gf elems) l (x1,x2) u got (i+1))=R):=zH (by rw[<-HF.out];exact(adn (aMi HX.out HGX.out (by rintro⟨-,-,h⟩;have:=acE h;rw[lX.out] at this;cases this))).symm);go_wp2_with fail;go_roundw
     case rel=>exact⟨i+1,zO,by go_num,HX2,anO.out.seq aX⟩
     simp[intOf];omega
    obtain rfl:true=R:=(by rw[<-HF.out];exact(acE ⟨i,px,g,zR _,HX.out,HGX.out,nK.out,by simpa using DU.out,adG.1 lX.out⟩).symm);go_wp2_with fail;go_ret;exact⟨rfl,anO.out.seq aX⟩
   obtain rfl:i=n:=(by omega);have hd:decide ((i:Int)<(i:Int))=false:=(by simp);obtain rfl:false=R:=(by rw[<-HF.out,pR.out];exact(aeT aMD).symm);go_wp2_with fail;go_ret;exact⟨rfl,dU⟩
def aj1(acc:aJ->Nm->Bool)(l:List aJ)(u:List Nm)(i:Nat):Prop:=∃(j:Nat) (x:aJ),i<=j/\l[j]?=some x/\aaw (auc acc x) x.mn x.mx u
theorem aAR{acc:aJ->Nm->Bool}{l:List aJ}{u:List Nm}:¬aj1 acc l u l.length:=by
 rintro⟨j,x,h1,h2,-⟩;have:=(List.getElem?_eq_some_iff.1 h2).1;omega
theorem aAP{acc:aJ->Nm->Bool}{l:List aJ}{u:List Nm}{i:Nat}{x:aJ}(hx:l[i]?=some x)(h:¬aaw (auc acc x) x.mn x.mx u):aj1 acc l u i↔aj1 acc l u (i+1):=by
 constructor
 ·rintro⟨j,y,h1,h2,h3⟩;refine⟨j,y,?_,h2,h3⟩
  rcases Nat.lt_or_ge i j with aN | jT
  ·exact aN
  obtain rfl:i=j:=(by omega);rw[hx] at h2;obtain rfl:=zI h2;exact absurd h3 h
 rintro⟨j,y,h1,h2⟩;exact⟨j,y,zO,h2⟩
theorem afV{acc:aJ->Nm->Bool}{x:aJ}(h:x.kind≠5):auc acc x=aeQ acc x:=by funext v;unfold auc;rw[if_neg h]
theorem asT{acc:aJ->Nm->Bool}{u:List Nm}:∀{l:List aJ},(∀x∈l,x.kind≠5)->(aqE acc l u↔aj1 acc l u 0)
 | [],_=>by rw[aqE];exact⟨λh=>h.elim,λ⟨j,x,_,h,_⟩=>by cases h⟩
 | p::l,h=>by
   have e:aqE acc (p::l) u=(aaw (aeQ acc p) p.mn p.mx u\/aqE acc l u):=(by rw[aqE]);rw[e,asT λx hx=>h x (List.mem_cons_of_mem _ hx),<-afV (h p (List.mem_cons_self ..))];constructor
   ·rintro (h1 | ⟨j,x,-,h2,h3⟩)
    ·exact⟨0,p,zR _,rfl,h1⟩
    exact⟨j+1,x,Nat.zero_le _,h2,h3⟩
   rintro⟨j,x,-,h2,h3⟩
   cases j with
   | zero=>obtain rfl:=zI h2;exact .inl h3
   | succ j=>exact .inr ⟨j,x,Nat.zero_le _,h2,h3⟩
theorem agh{n:Int}:∀{l:List aJ},jZ n l=true->∀x∈l,bU x.mn x.mx=true/\bT n false x=true
 | [],_,_,hx=>by cases hx
 | p::l,h,x,hx=>by
   rw[jZ] at h;simp only[Bool.and_eq_true] at h
   rcases z15.1 hx with rfl | hx
   ·exact h.1
   exact agh h.2 x hx
theorem apA{n:Int}{x:aJ}(h:bT n false x=true):x.kind≠5:=λe=>by
 rw[ahl e] at h;simp at h
theorem aj0{elems:List (List Nm)}{top:Bool}{x:aJ}(h:bT (elems.length:Int) top x=true):xE elems x:=λe=>by
 rw[abm e] at h;simp only[Bool.and_eq_true,z18] at h;exact⟨h.1.1.1.1,h.1.1.1.2⟩
theorem aNx(n:Nat)(hn:n<=1000)(W:World):(Instr.makeSlice 58 (.int .i64 n) (.int .i64 n)).run Tryz.prog W= .ok (.slice (some ⟨W.heap.size,0,none⟩) n n) (W.alloc (.cells (madeCells (Value.int .i64 0).cells (n*1)) 3)):=by
 obtain⟨ht,i,hi,hz,bY,nP,-⟩:=tyI;rw[run_make W 58 3 i _ ht hi hz .i64 .i64 n n zO zO (by rw[nP];omega) zO,bY];simp only[Int.toNat_natCast]
theorem aAQ{W W':World}{n:Nat}(h:W'.heap[W.heap.size]?=some (.cells (madeCells (Value.int .i64 0).cells (n*1)) 3))(hn:n<=1000):aY W' (· <W'.heap.size) 1 aV (List.replicate n 0) (some ⟨W.heap.size,0,none⟩) n:=by
 have e:(madeCells (Value.int .i64 0).cells (n*1)).size=n*1:=size_madeCells _ _;have h2:W'.ownsRow W.heap.size 3 1 (.slice (some ⟨W.heap.size,0,none⟩) n n) n (madeCells (Value.int .i64 0).cells (n*1)).toList:=⟨by rw[Array.length_toList];exact e,.inr ⟨W.heap.size,n,_,rfl,zR _,h,zR _,by unfold maxLen;omega,e,List.take_of_length_le (by rw[Array.length_toList,e];exact zR _)⟩⟩;have h3:=aob h2;have e2:List.replicate n (0:Int)=(List.replicate n 0).map λx:Nat=>(x:Int):=(by rw[List.map_replicate];rfl);rw[e2] at h3;exact(aAu.1 h3).F5.2
theorem aNz(elems:List (List Nm)):∀(p:aJ) (top:Bool),bT (elems.length:Int) top p=true->apx elems p:=by
 intro p
 induction p using aJ.ind with
 | h k' nI mx' uo cl' pr' args ih=>
 intro top hf u w cs eA en ec alH un uc hL hu JL huc;have rZ:Hid (∀x∈(aJ.mk k' nI mx' uo cl' pr' args).args,∀(top:Bool),bT (elems.length:Int) top x=true->apx elems x):=zH ih;obtain⟨p,hp⟩:=zF (aJ.mk k' nI mx' uo cl' pr' args);rw[hp] at rZ hL hf ⊢;clear ih hp;obtain⟨k,mn,mx,el,ck,ns,nl,sp,A1,n1,c1,A2,n2,c2,pr,A0,n0,c0,rfl,hk,-,-,-,-,-,hn0,aI⟩:=aW hL.rep;have Yw:=hL.cap.args;have hlen:n0=p.args.length:=(by have:=aI.1;rwa [List.length_map] at this);obtain⟨w1,bI,S1,nC,ai⟩:=af w (.cells #[.int .i64 k,.int .i64 mn,.int .i64 mx,.int .i64 el,.int .i64 ck,.string ns,.string nl,.string sp,.slice A1 n1 c1,.slice A2 n2 c2,.int .i64 pr,.slice A0 n0 c0] 29);obtain⟨q0,q1,q2,q3,q4,q5,q6,q7,q8,q9,aF,aG⟩:=aj S1;obtain⟨R,hR⟩:=zF (aaU (auc (Gf elems) p u));rw[hR];have HL:=zH hL;have HU:=zH hu;have aQ:=zH S1;have nK:=zH ai;have HR:=zH hR;have HK:=zH hk;have lM:=zH aI;have aAS:=zH Yw;have pR:=zH hlen;have HF:=zH hf;clear hL hu S1 hR hk aI Yw hlen hf;by_cases h12:k=1\/k=2
 ·have aN:aaU (∃n,u=[n]/\Gf elems p n=true)=R:=by
   rw[<-HR.out,afV (by rw[HK.out];omega)];have dm:=HK.out;obtain⟨k',nI,mx',uo,cl',pr',args⟩:=p;rw[aeQ];dsimp only;have bW:k'=k:=dm;rw[if_pos (by unfold fD;rw[bW];simpa using h12)]
  have HLT:=zH aN;have HAC:Hid (∀W nm,Bw w W->Rt 36 #[.agg (o5 k mn mx el ck ns nl sp A1 n1 c1 A2 n2 c2 pr A0 n0 c0),.slice eA en ec,.agg #[.string (Prod.fst nm),.string (Prod.snd nm)]] W (.bool (Gf elems p nm))):=zH λW nm hW=>aEE elems p _ eA en ec nm.1 nm.2 W (HL.out.rep.keepW hW) (HL.out.el.keepW hW) (aj0 HF.out);clear aN;go_enter Tryz.func142,Tryz.ntmps142;by_cases h1:un=1
  ·subst h1;have hu1:u.length=1:=HU.out.1.symm;obtain⟨b,off,x,y,HN,y0,y1,hux⟩:=aY.name (HU.out.keepW ai) (i:=0) zO uc;simp only[Nat.zero_mul,Nat.add_zero] at y0 y1;have aQi:∀W,(Instr.indexAt 37 (.slice alH 1 uc) (.int .i64 0)).run Tryz.prog W= .ok (.pointer (some ⟨b,off,none⟩)) W:=(by simpa using hux);clear hux
   have hue:u=[(x,y)]:=by
    have:=HN.out
    match u,hu1,this with
    | [a],_,h=>rw[zI h]
   obtain⟨b1,auB⟩:=zF (Gf elems p (x,y));have UD:Hid (∀W,Bw w W->Rt 36 #[.agg (o5 k mn mx el ck ns nl sp A1 n1 c1 A2 n2 c2 pr A0 n0 c0),.slice eA en ec,.agg #[.string x,.string y]] W (.bool b1)):=zH λW hW=>(by rw[<-auB];exact HAC.out W (x,y) hW)
   have HRB:Hid (R=b1):=zH (by
    rw[<-HLT.out,hue]
    cases b1 with
    | true=>exact acE ⟨_,rfl,auB⟩
    | false=>exact aeT (by rintro⟨n,e,h⟩;cases e;rw[auB] at h;cases h))
   have s0:=Since.cell q0;have s1:=Since.cell q1;have s2:=Since.cell q2;have s3:=Since.cell q3;have s4:=Since.cell q4;have s5:=Since.cell q5;have s6:=Since.cell q6;have s7:=Since.cell q7;have s8:=Since.cell q8;have s9:=Since.cell q9;have s10:=Since.cell aF;have UQ:=Since.cell aG;have s12:=Since.cell y0;have QF:=Since.cell y1;clear hu1 hue auB
   rcases h12 with rfl | rfl
   all_goals
    go_wp2_with fail;refine yh zK zK ?_
    repeat (go_big_quiet_step (first | (go_at_call 36;exact Eo (UD.out _ (nK.out.seq (Since.below _))))))
    refine wpQuiet_nil ?_;intro wq hq;have Xo:=Ap hq;go_wp2_with fail;go_ret;exact⟨(by rw[HRB.out];rfl),nK.out.seq Xo⟩
  have hd:decide ((un:Int)=1)=false:=(by simp;omega);have hdb:((un:Int)==1)=false:=(by simp;omega)
  obtain rfl:false=R:=by
   rw[<-HLT.out];refine (aeT ?_).symm;rintro⟨n,e,-⟩;rw[e] at HU;exact h1 HU.out.1
  have s0:=Since.cell q0;have s1:=Since.cell q1;have s2:=Since.cell q2;have s3:=Since.cell q3;have s4:=Since.cell q4;have s5:=Since.cell q5;have s6:=Since.cell q6;have s7:=Since.cell q7;have s8:=Since.cell q8;have s9:=Since.cell q9;have s10:=Since.cell aF;have UQ:=Since.cell aG
  rcases h12 with rfl | rfl
  all_goals
   go_wp2_with fail;refine yh zK zK ?_
   repeat (go_big_quiet_step (first | (go_at_call 36;exact Eo (HAC.out _ (_,_) (nK.out.seq (Since.below _))))))
   refine wpQuiet_nil ?_;intro wq hq;have Xo:=Ap hq;go_wp2_with fail;go_ret;exact⟨rfl,nK.out.seq Xo⟩
 by_cases h3:k=3
 ·subst h3;have hea:(xh p&&jZ (elems.length:Int) p.args)=true:=(by rw[<-apv HK.out];exact HF.out);simp only[Bool.and_eq_true] at hea;have CX:=agh hea.2
  have HC:Hid (Rt 174 #[.slice A0 n0 c0,.slice eA en ec,.slice alH un uc] w1 (.bool R)):=zH (by
   have e:auc (Gf elems) p=afY (Gf elems) p.args:=by
    rw[afV (by rw[HK.out];decide)];have dm:=HK.out;obtain⟨k',nI,mx',uo,cl',pr',args⟩:=p;have bW:k'=3:=dm;funext v;rw[aeQ];dsimp only;rw[if_neg (by rw[bW];decide),if_pos bW];rfl
   rw[<-HR.out,e]
   exact aEX elems p.args (λx hx=>⟨aM9 (rZ.out x hx false (CX x hx).2) (CX x hx).1,apA (CX x hx).2⟩) u w1 A0 n0 c0 eA en ec alH un uc (lM.out.keepW nK.out) aAS.out.1 (aAS.out.2.keepW nK.out) (HL.out.el.keepW nK.out) (HU.out.keepW nK.out) JL huc)
  clear hea CX h12;go_enter Tryz.func142,Tryz.ntmps142;go_wp2_with fail;refine HC.out.mono ?_;rintro e w2 ⟨rfl,ag⟩;go_wp2_with fail;go_ret;exact⟨rfl,nK.out.seq ag⟩
 by_cases h4:k=4
 ·subst h4;have hea:(xh p&&decide (0<p.args.length)&&jZ (elems.length:Int) p.args)=true:=(by rw[<-apw HK.out];exact HF.out);simp only[Bool.and_eq_true] at hea;have CX:=agh hea.2;have at7:Hid (∀x∈p.args,aEW elems x):=zH λx hx=>aM9 (rZ.out x hx false (CX x hx).2) (CX x hx).1
  have HF0:Hid (aaU (aj1 (Gf elems) p.args u 0)=R):=zH (by
   rw[<-HR.out,afV (by rw[HK.out];decide)];have dm:=HK.out;have hc:=asT (acc:=Gf elems) (u:=u) λx hx=>apA (CX x hx).2;obtain⟨k',nI,mx',uo,cl',pr',args⟩:=p;have bW:k'=4:=dm;rw[aeQ];dsimp only;rw[if_neg (by rw[bW];decide),if_neg (by rw[bW];decide)]
   exact(adn hc).symm)
  clear hea CX h12;go_enter Tryz.func142,Tryz.ntmps142;go_wp2_with fail;clear q0 q1 q2 q3 q4 q5 q6 q7 q8 q9 aF aG
  go_loopw [7] (λs7 W=>∃i:Nat,i<=n0/\s7= .int .i64 i/\Hid (aaU (aj1 (Gf elems) p.args u i)=R)/\Bw w1 W) (λs7 _=>n0 - (intOf s7).toNat)
  case atStart=>exact⟨0,zO,rfl,HF0,Below.refl _ _⟩
  obtain⟨i,hi,rfl,HFI,dU⟩:=hrel;obtain⟨q0,q1,q2,q3,q4,q5,q6,q7,q8,q9,aF,aG⟩:=aj (ae aQ.out dU);by_cases aN:i<n0
  ·have hd:decide ((i:Int)<(n0:Int))=true:=(by simp;omega);have aH:=nK.out.seq dU;obtain⟨b,off,px,v0,v1,v2,v3,v4,v5,v6,v7,v8,v9,v10,v11,HX,eG,z0,z1,z2,z3,z4,z5,z6,z7,z8,z9,nZ,og,dO⟩:=(lM.out.keepW aH).aQm (aAS.out.2.keepW aH) aN c0;obtain⟨b1,auB⟩:=zF (aaU (aaw (auc (Gf elems) px) px.mn px.mx u))
   have HC:Hid (Rt 24 #[.agg #[v0,v1,v2,v3,v4,v5,v6,v7,v8,v9,v10,v11],.slice eA en ec,.slice alH un uc] wr (.bool b1)):=zH (by
    rw[<-auB]
    exact at7.out px (z13 HX.out) u wr _ eA en ec alH un uc ⟨eG.1,eG.2,HL.out.el.keepW aH⟩ (HU.out.keepW aH) JL huc)
   have aJ9:=zH auB;have HBR:=zH dU;clear eG auB dU aH;go_wp2_with fail;refine HC.out.mono ?_;rintro e w2 ⟨rfl,ag⟩;cases b1
   ·have HX2:Hid (aaU (aj1 (Gf elems) p.args u (i+1))=R):=zH (by rw[<-HFI.out];exact(adn (aAP HX.out (λh=>by have:=acE h;rw[aJ9.out] at this;cases this))).symm);go_wp2_with fail;go_roundw
    case rel=>exact⟨i+1,zO,by go_num,HX2,HBR.out.seq ag⟩
    simp[intOf];omega
   obtain rfl:true=R:=(by rw[<-HFI.out];exact(acE ⟨i,px,zR _,HX.out,adG.1 aJ9.out⟩).symm);go_wp2_with fail;go_ret;exact⟨rfl,nK.out.seq (HBR.out.seq ag)⟩
  obtain rfl:i=n0:=(by omega);have hd:decide ((i:Int)<(i:Int))=false:=(by simp);obtain rfl:false=R:=(by rw[<-HFI.out,pR.out];exact(aeT aAR).symm);go_wp2_with fail;go_ret;exact⟨rfl,nK.out.seq dU⟩
 by_cases h5:k=5
 ·subst h5;have hea:=HF.out;rw[ahl HK.out] at hea;simp only[Bool.and_eq_true,z18] at hea;have CX:=agh hea.1.2;have hn6:n0<=6:=(by rw[pR.out];exact hea.1.1.2)
  have HC:Hid (Bw w1 (w1.alloc (.cells (madeCells #[.int .i64 0] n0) 3)).drew/\Cl 175 #[.slice A0 n0 c0,.slice eA en ec,.slice alH un uc,.slice (some ⟨w1.heap.size,0,none⟩) n0 n0] (w1.alloc (.cells (madeCells #[.int .i64 0] n0) 3)).drew λe w'=>e= .returned (.bool R)/\Bw w1 w'):=zH (by
   obtain⟨V,hV,aQH,hsV,hbV⟩:=af w1.drew (.cells (madeCells (Value.int .i64 0).cells (n0*1)) 3);have hV2:(w1.alloc (.cells (madeCells #[.int .i64 0] n0) 3)).drew=V:=(by rw[<-hV,Nat.mul_one];rfl);rw[hV2];have hW:Bw w1 V:=(Below.refl _ _).drew.seq hbV;have hw:=nK.out.seq hW;have e:auc (Gf elems) p u=adA (Gf elems) p.args u (List.replicate n0 0):=(by unfold auc;rw[if_pos HK.out,pR.out]);refine⟨hW,?_⟩;rw[<-HR.out,e];refine (aNb elems p.args (λx hx=>⟨aj0 (CX x hx).2,by have:=(CX x hx).1;unfold bU at this;simp only[Bool.and_eq_true,Bool.or_eq_true,z18] at this;omega⟩) zO u (List.replicate n0 0) V A0 n0 c0 eA en ec alH un uc _ n0 n0 (by rw[List.length_replicate];exact pR.out) (λg hg=>by rw[List.eq_of_mem_replicate hg];omega) (lM.out.keepW hw) (HL.out.el.keepW hw) (HU.out.keepW hw) JL huc (aAQ (W:=w1.drew) aQH zO)).mono ?_;rintro e w' ⟨rfl,hb⟩
   exact⟨rfl,hW.seq hb⟩)
  have kV:=aNx n0 zO;have HH:Hid (∀V,Bw w1 V->V.cell? ⟨w.heap.size,11,none⟩=some (.slice A0 n0 c0)):=zH λV hV=>(aj (ae aQ.out hV)).2.2.2.2.2.2.2.2.2.2.2;clear hea CX h12 h3 h4;go_enter Tryz.func142,Tryz.ntmps142;go_wp2_with fail;have hHeld:=HH.out w1.drew (Below.refl _ _).drew;refine ah.stN HH 9 ?_;refine ah.tk 0 hHeld ?_;refine ah.tk 1 hHeld ?_;refine ah.tk 2 hHeld ?_;refine ah.tk 3 hHeld ?_;refine ah.tk 4 hHeld ?_;refine ah.tk 5 hHeld ?_;refine ah.tk 6 hHeld ?_;refine ah.acF 7 (λ_=>HH.out _ HC.out.1) ?_;refine ah.on 8 λK hK=>?_;go_simp;refine HC.out.2.mono ?_;rintro e wf ⟨rfl,WI⟩;refine di hK (λ_=>HH.out _ WI) ?_;clear hK K;refine ah.oe 9 ?_;refine ah.dn ?_;go_wp2_with fail;go_ret;exact⟨rfl,nK.out.seq WI⟩
 exfalso;have hf:=HF.out;rw[QR (by rw[HK.out];omega) (by rw[HK.out];omega) (by rw[HK.out];exact h3) (by rw[HK.out];exact h4) (by rw[HK.out];exact h5)] at hf;cases hf
end Go.Proofs.YtgmnnegfndpakaaGreatDoor
