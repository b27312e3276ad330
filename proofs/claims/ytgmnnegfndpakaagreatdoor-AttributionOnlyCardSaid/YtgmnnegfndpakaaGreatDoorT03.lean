import Derived.Test.YtgmnnegfndpakaaGreatDoorT01
import Derived.Test.YtgmnnegfndpakaaGreatDoorJ02
set_option maxHeartbeats 20000000
set_option maxRecDepth 100000
namespace Go.Proofs.YtgmnnegfndpakaaGreatDoor
open Go.RowKit Go.Proofs.Tryz
variable{W W':World}{F:Nat->Prop}{mb gc gm gw:Nat}{L:List (Nat×aJ)}{n:Int}
theorem aGx{w:World}{g:Nat}(v:Value):Kept (· =g) w (w.setCell g v):=(Kept.refl (· =g) w).setCell (p:=g) (.inl rfl) v
def aAY(cs:List Value):Value:=.agg cs.toArray
def PlM(W:World)(F:Nat->Prop)(mb:Nat)(L:List (Nat×aJ)):Prop:=∃M:List (Int×List Value),gQ W mb vM aAY M/\∀i:Nat,(lkP L i=none->dP jL (i:Int) M=none)/\∀q,lkP L i=some q->∃cs,dP jL (i:Int) M=some cs/\au W F (aZ q) cs
theorem PlM.keep{F':Nat->Prop}(h:PlM W F mb L)(hm:W'.heap[mb]?=W.heap[mb]?)(hF:∀q,F q->F' q/\W'.heap[q]?=W.heap[q]?):PlM W' F' mb L:=by
 obtain⟨M,h1,h2⟩:=h;refine⟨M,h1.keep hm,λi=>⟨(h2 i).1,λq hq=>?_⟩⟩;obtain⟨cs,h3,h4⟩:=(h2 i).2 q hq;exact⟨cs,h3,h4.keep hF⟩
theorem PlM.new(h:gQ W mb vM aAY []):PlM W F mb []:=⟨[],h,λi=>⟨λ_=>rfl,λq hq=>by cases hq⟩⟩
theorem apB(a b:Int):jL a b=true↔a=b:=by unfold jL;simp
theorem PlM.put{M:List (Int×List Value)}(h2:∀i:Nat,(lkP L i=none->dP jL (i:Int) M=none)/\∀q,lkP L i=some q->∃cs,dP jL (i:Int) M=some cs/\au W F (aZ q) cs)
 {n:Nat} (hn:∀x∈L,x.1≠n) {p:aJ} {cs:List Value} (hp:au W F (aZ p) cs) (h1:gQ W' mb vM aAY (jh jL (n:Int) cs M)) (hF:∀q,F q->W'.heap[q]?=W.heap[q]?):PlM W' F mb (L++[(n,p)]):=by
 refine⟨_,h1,λi=>?_⟩;rw[Lr apB,aGs hn];by_cases e:n=i
 ·subst e;rw[j6 rfl,j6 ((apB _ _).2 rfl)];refine⟨λh=>(by cases h),λq hq=>⟨cs,rfl,?_⟩⟩;obtain rfl:=zI hq;exact hp.keep λb hb=>⟨hb,hF b hb⟩
 rw[j5 e,j5 (λh=>e (by have:=(apB _ _).1 h;omega))];refine⟨(h2 i).1,λq hq=>?_⟩;obtain⟨cs',h3,h4⟩:=(h2 i).2 q hq;exact⟨cs',h3,h4.keep λb hb=>⟨hb,hF b hb⟩⟩
structure PwI (W:World) (F:Nat->Prop) (gc gm gw mb:Nat) (n:Int) (L:List (Nat×aJ)):Prop where
 c:W.heap[gc]?=Zc #[n] 3
 m:W.heap[gm]?=Zc #[.map (some mb)] 142
 f:W.heap[gw]?=Zc #[.func (.func 149) #[] #[(gc,0),(gm,0),(gw,0)]] 161
 p:PlM W F mb L
 lt:∀x∈L,(x.1:Int)<=n
theorem PwI.below(h:PwI W F gc gm gw mb n L)(hF:∀q,F q->q<W.heap.size)(hb:Bw W W'):PwI W' F gc gm gw mb n L:=
 ⟨ae h.c hb,ae h.m hb,ae h.f hb,h.p.keep (hb.block mb (by obtain⟨M,h1,-⟩:=h.p;exact h1.lt)) λq hq=>⟨hq,hb.block q (hF q hq)⟩,h.lt⟩
theorem PwI.ne(h:PwI W F gc gm gw mb n L):gc≠gm/\gc≠gw/\gc≠mb/\gm≠mb/\gw≠mb:=by
 obtain⟨M,h1,-⟩:=h.p;refine⟨λe=>?_,λe=>?_,tK h.c h1,tK h.m h1,tK h.f h1⟩
 ·have:=h.c;rw[e,h.m] at this;simp at this
 have:=h.c;rw[e,h.f] at this;simp at this
theorem PwI.set(h:PwI W F gc gm gw mb n L)(hF:∀q,F q->q≠gc)(m:Int)(hm:n<=m):PwI (W.setCell gc m) F gc gm gw mb m L:=by
 obtain⟨n1,n2,n3,-,-⟩:=h.ne;have hk:∀q,q≠gc->(W.setCell gc m).heap[q]?=W.heap[q]?:=λq hq=>gq hq;refine⟨?_,(hk _ n1.symm).trans h.m,(hk _ n2.symm).trans h.f,h.p.keep (hk _ n3.symm) λq hq=>⟨hq,hk q (hF q hq)⟩,λx hx=>by have:=h.lt x hx;omega⟩;have:=bD (v:=m) h.c;exact this
theorem aNC(N:Int)(F:Nat->Prop)(gc gm gw mb:Nat)(p:aJ):∀(top:Bool) (num:Nat) (cs:List Value) (L:List (Nat×aJ)) (w:World),bT N top p=true->num+dh p<1000000->au w F (aZ p) cs->(∀q,F q->q<w.heap.size/\q≠gc/\q≠mb)->PwI w F gc gm gw mb ((num:Int) - 1) L->
 Cl 149 #[.agg cs.toArray,(gc,0),(gm,0),(gw,0)] w λe w'=>e= .returned (.tuple #[])/\PwI w' F gc gm gw mb ((num:Int)+(dh p:Int) - 1) (L++aaj p num)/\Kept (λq=>q=gc\/q=mb) w w':=by
 induction p using aJ.ind with
 | h k mn mx el cl pr args ih=>
   intro top num cs L w aKy lQ hr hF hI;obtain⟨c0,c1,c2,c3,c4,c5,A,n,c,rfl,eH,hn,aI⟩:=abU hr;obtain⟨ck,a1,a2,a3,B1,m1,d1,B2,m2,d2,Ar⟩:=eH.cells;simp only[i7,and_true] at Ar;obtain⟨rfl,rfl,rfl,rfl,rfl,rfl⟩:=Ar
   have SS:fD k=true->args=[]:=λh=>by
    have:=(ajR h aKy).2;exact this
   have CX:¬fD k=true->∀x∈args,bT N false x=true:=λh x hx=>apY (aFy aKy h) x hx;obtain⟨w1,bI,S1,nC,ai⟩:=zP1 w k mn mx el ck a1 a2 a3 B1 m1 d1 B2 m2 d2 pr A n c;have LV:au w1 F (aZ (.mk k mn mx el cl pr args)) [k,mn,mx,el,ck,a1,a2,a3,(B1,m1,d1),(B2,m2,d2),pr,(A,n,c)]:=hr.keep λq hq=>⟨hq,ai.block q (hF q hq).1⟩;have hI1:=hI.below (λq hq=>(hF q hq).1) ai;obtain⟨m,hm⟩:∃m:Int,m=(num:Int) - 1:=⟨_,rfl⟩;rw[<-hm] at hI1;have iY: -1<=m:=zO;have nJ:m<1000000:=zO;have hI2:=hI1.set (λq hq=>(hF q hq).2.1) (m+1) zO;have hgn:w≠gc:=λe=>(by have:=aC hI.c;omega);have hnW:dh (.mk k mn mx el cl pr args)=1+dZ args:=(by rw[dh]);have hnl:n=args.length:=(by have:=aI.1;rwa [z8] at this);have aND:bM w1 F 12 (args.map aZ) A n:=aI.keep λq hq=>⟨hq,ai.block q (hF q hq).1⟩;have S2:(w1.setCell gc (m+1:Int)).heap[w.heap.size]?=Zc #[k,mn,mx,el,ck,a1,a2,a3,(B1,m1,d1),(B2,m2,d2),pr,(A,n,c)] 29:=(gq hgn).trans S1;have hg0:gc<w:=aC hI.c;have hmb:mb<w:=(by obtain⟨M,h1,-⟩:=hI.p;exact h1.lt);obtain⟨w2,mJ⟩:=zF (w1.setCell gc (m+1:Int));rw[mJ] at hI2 S2;have dm:Kept (λq=>q=gc\/q=mb) w w2:=(Qh ai).trans (by rw[<-mJ];exact fE (aGx _) λq hq=>.inl hq);have DR:bM w2 F 12 (args.map aZ) A n:=aI.keep λq hq=>⟨hq,dm.block q (hF q hq).1 (by have:=hF q hq;omega)⟩;have hr2:au w2 F (aZ (.mk k mn mx el cl pr args)) [k,mn,mx,el,ck,a1,a2,a3,(B1,m1,d1),(B2,m2,d2),pr,(A,n,c)]:=hr.keep λq hq=>⟨hq,dm.block q (hF q hq).1 (by have:=hF q hq;omega)⟩;obtain⟨e0,f0,q0,e1,e2,e3,rZ,HF⟩:=zK8 (aO hI1.c) (k8 w1 gc 0 _ _ hI1.c) (aj S2) (aO hI2.c) (aO hI2.m) (aO hI2.f) (zH ih) (zH hF);obtain⟨HI2,RG,lM,HR,HLF,HEV,HM,acC⟩:=zJ8 hI2 dm DR hr2 SS CX hm lQ;obtain⟨HNW,Du,gY,HW2,HMB,HG0⟩:=zJ6 hnW hnl S2 mJ hmb hg0;have HLT:Hid (∀x∈L,(x.1:Int)<=(num:Int) - 1):=zH hI.lt;clear ih hF hI hI1 hI2 hr LV hr2 aI aND DR SS CX hm lQ hnW hnl aKy eH S1 S2 dm hmb hg0 hgn;go_enter func149,ntmps149;obtain⟨lb,hlb⟩:=zF (fD k);have HLB:=zH hlb;clear hlb;go_upto_region 2 with fail
   go_cut [16] (λs16 W=>s16= lb/\w2=W)
   case first=>
    by_cases eu:k=1
    ·subst eu;have hx:true=lb:=HLB;subst hx;go_wp2_with fail;go_meet;exact⟨rfl,rfl⟩
    have gJ:(k==1)=false:=(by simpa using eu);have hx:(k==2)=lb:=(by rw[<-HLB.out];unfold fD;rw[decide_eq_false eu,Bool.false_or];rfl);go_wp2_with fail;go_meet;exact⟨rfl,rfl⟩
   case rest=>
   obtain⟨rfl,rfl⟩:=hcut;obtain⟨ow,Zk⟩:=zF ((if fD k=true then [(num,aJ.mk k mn mx el cl pr args)] else []));have Px:=zH Zk;clear Zk;go_upto_if 16 with fail
   go_cut [] (λwc=>PwI wc F gc gm gw mb ((num:Int)) (L++ow)/\Kept (λq=>q=mb) w2 wc)
   case first=>
    cases lb
    ·have e1:ow=[]:=(by rw[<-Px.out,j5 (by rw[HLB.out];simp)]);have E1:=zH e1;clear e1;go_wp2_with fail;go_meet;exact⟨by rw[E1.out,m8,show (num:Int)=m+1 by have:=HM.out;omega];exact HI2,Kept.refl _ _⟩
    have e1:ow=[(num,aJ.mk k mn mx el cl pr args)]:=(by rw[<-Px.out,j6 HLB.out]);have E1:=zH e1;clear e1;obtain⟨M,hM1,hM2⟩:=HI2.p;obtain⟨yY,uy⟩:=zJ2 hM1 hM2;clear hM1 hM2
    go_wp2_with (with_reducible refine Lc rfl (.tmp 17) (.tmp 18) (.tmp 19) 142 rfl (et:=29) (val:=aAY) qJ underlying142 mb M rfl yY.out (m+1) rfl [k,mn,mx,el,ck,a1,a2,a3,(B1,m1,d1),(B2,m2,d2),pr,(A,n,c)] rfl ?_;intro oH j1 j2 j3 j4;have HJ1:=zH j1;have HJ2:=zH j2;have HJ4:=zH j4;clear j1 j2 j3 j4)
    go_meet;obtain⟨-,-,n3,n4,n5⟩:=HI2.ne;have hme:m+1=(num:Int):=(by have:=HM.out;omega);refine⟨⟨?_,(HJ2 _ n4).trans HI2.m,(HJ2 _ n5).trans HI2.f,?_,?_⟩,HJ4⟩
    ·rw[<-hme];exact(HJ2 _ n3).trans HI2.c
    ·rw[E1.out];refine PlM.put uy (λx hx=>?_) HR (by rw[<-hme];exact HJ1) λq hq=>HJ2 q (HF q hq).2.2;have:=HI2.lt x hx;have h2:=HLT x hx;omega
    intro x hx;rw[E1.out] at hx
    rcases z12.1 hx with h | h
    ·have:=HI2.lt x h;omega
    rw[og] at h;subst h;exact Int.le_refl _
   obtain⟨hic,GN⟩:=hcut;have bY:w2.heap.size<=wc:=GN.size;have hgw:w.heap.size<w2:=aC gY;have Sc:wc.heap[w.heap.size]?=Zc #[k,mn,mx,el,ck,a1,a2,a3,(B1,m1,d1),(B2,m2,d2),pr,(A,n,c)] 29:=(GN.block _ hgw (by have:=HMB.out;omega)).trans gY;clear q0 e0 e1 e2 e3 f0;have q0:=aj Sc;have aNL:bM wc F 12 (args.map aZ) A n:=lM.keep λq hq=>⟨hq,GN.block q (by have:=HF q hq;have:=RG.size;omega) (HF q hq).2.2⟩;have lH:Kept (λq=>q=gc\/q=mb) w wc:=RG.trans (fE GN λq hq=>.inr hq);obtain⟨HIC,ayg,rM⟩:=zJ3 hic aNL lH;clear hic GN aNL lH Sc hgw;go_wp2_with fail
   go_loopw [23] (λsi W=>∃i:Nat,i<=n/\si= i/\PwI W F gc gm gw mb ((num:Int)+(dZ (args.take i):Int)) (L++ow++aaH (args.take i) (num+1))/\Kept (λq=>q=gc\/q=mb) wc W) (λsi _=>n - (intOf si).toNat)
   case atStart=>
    refine⟨0,zO,rfl,?_,Kept.refl _ _⟩;rw[List.take_zero,aaH,dZ,m8];simpa using HIC.out
   obtain⟨i,hi,rfl,BZ,o9⟩:=hrel;clear q0;by_cases aN:i<n
   ·have gJ:=zT1 (i<n);have hnk:¬fD k=true:=λh=>(by have:=Du.out;rw[HLF h] at this;simp at this;omega);have hFr:∀q,F q->q<wr.heap.size/\q≠gc/\q≠mb:=λq hq=>(by have:=HF q hq;have:=rM.size;have:=o9.size;omega);have avo:bM wr F 12 (args.map aZ) A n:=ayg.keep λq hq=>⟨hq,o9.block q (by have:=HF q hq;have:=rM.size;omega) (by have:=HF q hq;omega)⟩;obtain⟨b,off,px,y0,y1,y2,y3,y4,y5,y6,y7,y8,y9,y10,y11,HX,eG,z0,z1,z2,z3,z4,z5,z6,z7,z8,z9,nZ,og,dO⟩:=avo.DW aN c;obtain⟨kx,gU,gz,gZ,ig,ik,iq,iw,iy,iC,iD,iE,iF,iG,iH,Ax,nx,cx,fJ,-⟩:=aW eG;simp only[i7,and_true] at fJ;obtain⟨rfl,rfl,rfl,rfl,rfl,rfl,rfl,rfl,rfl,rfl,rfl,rfl⟩:=fJ;obtain⟨w4,vV,S4,IX,aX⟩:=zP1 wr kx gU gz gZ ig ik iq iw iy iC iD iE iF iG iH Ax nx cx;have x0:=aj S4;have aGy:=BZ.below (λq hq=>(hFr q hq).1) aX;have e3:=aO aGy.f;have ael:au w4 F (aZ px) [kx,gU,gz,gZ,ig,ik,iq,iw,(iy,iC,iD),(iE,iF,iG),iH,(Ax,nx,cx)]:=eG.keep λq hq=>⟨hq,aX.block q (hFr q hq).1⟩;have yB:=ayM HX;have qY:=aEo args (i+1)
    have yC:=rZ px (SK HX) false (num+1+dZ (args.take i)) _ (L++ow++aaH (args.take i) (num+1)) w4 (HEV hnk px (SK HX)) (by have:=acC.out;have:=HNW.out;omega) ael (λq hq=>by have:=hFr q hq;omega) (by
     have e:((num+1+dZ (args.take i):Nat):Int) - 1=(num:Int)+(dZ (args.take i):Int):=zO
     rw[e];exact aGy)
    have hz:((num+1+dZ (args.take i):Nat):Int)+(dh px:Int) - 1=(num:Int)+(dZ (args.take (i+1)):Int):=zO;rw[hz,d7,<-atx HX] at yC;have RY:=zH yC;have Eg:=zH (o9.trans (Qh aX));clear yC o9 BZ aGy aX eG ael avo yB qY hz S4 hFr
    go_wp2_with (go_at_call 149;refine RY.mono ?_;rintro e w5 ⟨rfl,h5,h6⟩;have H5:=zH h5;have H6:=zH h6;clear h5 h6)
    go_roundw
    case rel=>exact⟨i+1,zO,by go_num,H5,Eg.trans H6⟩
    simp[intOf];omega
   have gJ:=zT2 (i<n);have jo:args.take i=args:=l8 (by rw[<-Du.out];omega);rw[jo] at BZ;have HMI:=zH BZ;clear BZ jo;go_wp2_with fail
   go_end0
   refine⟨rfl,?_,rM.trans o9⟩;rw[aNB HLF num,Px.out,<-d7,show (num:Int)+(dh (aJ.mk k mn mx el cl pr args):Int) - 1=(num:Int)+(dZ args:Int) by have:=HNW.out;omega];exact HMI
theorem aO7(N:Int)(p:aJ)(cs:List Value)(w:World)(aKy:bT N true p=true)(lQ:dh p<100000)(hr:au w (· <w) (aZ p) cs):
 Cl 87 #[.agg cs.toArray] w λe w'=>∃mb,e= .returned (.map (some mb))/\PlM w' (· <w) mb (aaj p 0)/\w.heap.size<=mb/\Bw w w':=by
 obtain⟨k,mn,mx,el,ck,ns,nl,sp,A1,n1,c1,A2,n2,c2,pr,A,n,c,rfl,-⟩:=aW hr;obtain⟨w1,bI,S1,S2,S3,S4,S5,nC,ai⟩:=ade w (Zc #[k,mn,mx,el,ck,ns,nl,sp,(A1,n1,c1),(A2,n2,c2),pr,(A,n,c)] 29) (.map #[] 0) (Zc #[.map (some (w.heap.size+1))] 142) (Zc #[(-1:Int)] 3) (Zc #[.func (.func 149) #[] #[(w.heap.size+1+1+1,0),(w.heap.size+1+1,0),(w.heap.size+1+1+1+1,0)]] 161);have q0:=aj S1;have e5:=aO S5;have hI:PwI w1 (· <w) (w.heap.size+1+1+1) (w.heap.size+1+1) (w.heap.size+1+1+1+1) (w.heap.size+1) (((0:Nat):Int) - 1) []:=⟨S4,S3,S5,PlM.new S2,λx hx=>by cases hx⟩;have HC:=zH (aNC N (· <w) (w.heap.size+1+1+1) (w.heap.size+1+1) (w.heap.size+1+1+1+1) (w.heap.size+1) p true 0 _ [] w1 aKy zO (hr.below ai) (λq hq=>⟨zO,zO,zO⟩) hI);have nK:=zH ai;have L8:=@run_makeMap prog;clear S1 S2 S3 S4 S5 hI hr aKy ai;go_enter func87,ntmps87;go_wp2_with fail;refine HC.mono ?_;rintro e w2 ⟨rfl,hI2,dm⟩;have e6:=aO hI2.m;obtain⟨HI2,RG⟩:=zJ2 hI2 dm;clear hI2 dm;go_wp2_with fail;go_ret;refine⟨_,rfl,by have h:=HI2.p;rwa [d6] at h,zO,?_⟩;exact⟨RG.os.trans nK.os,RG.tape.trans nK.tape,RG.output.trans nK.output,zT nK.size RG.size,λq hq=>(RG.block q zO zO).trans (nK.block q hq)⟩
theorem aRk(elems:List (List Nm))(p:aJ)(cs:List Value)(a b:ByteArray)(w:World)(eA:Option Addr)(en ec:Nat)(hE:bM w (· <w) 1 (elems.map nU) eA en)(jR:en<6000000000000)(hr:au w (· <w) (aZ p) cs)(hl:xE elems p):
 Rt 92 #[.agg cs.toArray,(eA,en,ec),.agg #[a,b]] w (Gf elems p (a,b)):=by
 obtain⟨k,mn,mx,el,ck,ns,nl,sp,A1,n1,c1,A2,n2,c2,pr,A,n,c,rfl,hk,-,-,lT,-,eH,-⟩:=aW hr;obtain⟨w1,bI,S1,S2,nC,ai⟩:=zP2 w k mn mx el ck ns nl sp A1 n1 c1 A2 n2 c2 pr A n c (Zc #[a,b] 23);obtain⟨q0,q1,q2,q3,q4,q5,q6,q7,q8,q9,aF,aG⟩:=aj S1;obtain⟨r0,r1⟩:=dw S2;obtain⟨v,hv⟩:=zF (Gf elems p (a,b));rw[hv];have HV:=zH hv;clear S1 S2 hv;by_cases eu:k=1
 ·subst eu;obtain⟨h0,h1⟩:=hl hk;rw[lT] at h0 h1;obtain⟨i,rfl⟩:∃i:Nat,el=i:=⟨el.toNat,zO⟩;have hlen:=hE.1;rw[z8] at hlen;have hi:i<en:=zO;clear hlen;obtain⟨ob,off,x,Ax,nx,cx,HX,hxn,aI,GI,dO⟩:=(hE.below ai).Uk hi ec;have HR:Hid (aY w1 (· <w) 2 dK x Ax nx):=zH aI
  have hVV:ru x a b=v:=by
   have h:=HV.out;unfold Gf elemAt at h;rw[hk,j6 rfl,lT,Int.toNat_natCast,HX.out] at h;rw[<-h];show ru x a b=(List.any x (eqN (a,b)));clear h HV HX aI hxn HR GI
   induction x with
   | nil=>rfl
   | cons y x ih=>rw[ru,List.any_cons,ih];unfold eqN;rw[NL y.1,NL y.2]
  have QA:=zH hVV;have hk0:((1:Int)==1)=true:=rfl;clear aI hVV hl hE eH hr h0 h1;go_enter func92,ntmps92;go_wp2_with fail;obtain⟨sq3,sr0,sr1,sc1⟩:=zK4 (Since.cell q3) (Since.cell r0) (Since.cell r1) (Since.cell GI);have HRS:Hid (∀p:Since w1,aY p.wld (· <w) 2 dK x Ax nx):=zH λp=>HR.below (p.below.mono ai.size);refine yh zK zK ?_
  repeat (quiet_step (first
   | (go_at_call_of 129 (Value.slice Ax nx cx);exact Eo (Xn a b x Ax nx cx _ _ (HRS _) zO QA))))
  refine wpQuiet_nil ?_;intro wq hq;have Xo:=Ap hq;clear hq;go_wp2_with fail;go_ret;exact⟨rfl,ai.seq Xo⟩
 have hk0:(k==1)=false:=(by simpa using eu);obtain⟨x1,Cb⟩:=zF ((xg (xO p.cls) (jJ a b) (pK p.cls a b)).1);obtain⟨x2,FI⟩:=zF ((xg (xO p.cls) (jJ a b) (pK p.cls a b)).2)
 have DV:(x1&&decide (x2=0))=v:=by
  have h:=HV.out;unfold Gf at h;rw[hk,j5 eu] at h;rw[<-Cb,<-FI];exact h
 have QA:=zH DV
 have HH:Hid (Rt 155 #[.agg #[ck,ns,nl,sp,(A1,n1,c1),(A2,n2,c2)],.agg #[a,b]] w1 (.tuple #[x1,x2])):=zH (by
  have h:=arn a b p.cls _ w1 _ (eH.keep (F':=λ_=>True) λq _ hq=>⟨trivial,ai.block q hq⟩)
  rw[Cb,FI] at h;exact h)
 clear DV Cb FI hl hE eH hr hk;go_enter func92,ntmps92;go_wp2_with fail;refine HH.mono ?_;rintro e w2 ⟨rfl,ag⟩;cases x1
 all_goals
  by_cases hx:x2=0
  all_goals
   have hxx:(x2==0)=decide (x2=0):=rfl;have HX:=zH hx;go_wp2_with fail;go_ret;exact⟨by rw[<-QA.out];simp[HX.out],ai.seq ag⟩
theorem ayR{t:Nat->Bool}{l:List Nat}{i x:Nat}(h:l[i]?=x):(l.take (i+1)).filter t=(l.take i).filter t++if t x then [x] else []:=by
 obtain⟨hi,rfl⟩:=z4.1 h;rw[List.take_succ_eq_append_getElem hi,List.filter_append,List.filter_cons]
 split<;>rfl
theorem azA{p:Prop} (h:p:=by
 obtain⟨i,A,n,c,hi,rfl,rfl,ho,hb⟩:=hrel;by_cases aN:i<ln
 ·have hd:=zT1 (i<ln);obtain⟨b,off,x,HX,hc0,dO⟩:=(lM.keepW hb).nat aN lc;obtain⟨tv,htv⟩:=zF (t x);have yC:=vJ x (SK HX) wr hb;rw[htv] at yC;have bZ:=ayR (t:=t) HX;rw[htv] at bZ;obtain⟨RY,sV,HO,HB⟩:=zJ4 yC bZ ho hb;clear htv yC bZ ho;cases tv
  ·go_wp2_with fail;refine RY.mono ?_;rintro e w2 ⟨rfl,ag⟩;go_wp2_with fail;go_roundw
   case rel=>exact⟨i+1,A,n,c,zO,rfl,by go_num,by rw[sV.out];simpa using HO.keep ag,HB.seq ag⟩
   simp[intOf];omega
  go_wp2_with fail;refine RY.mono ?_;rintro e w2 ⟨rfl,ag⟩;obtain⟨w3,vU,S3,su,az⟩:=af w2 (Zc #[x] 3);have Tc:=HO.keep (ag.seq az);have BD:=HB.seq (ag.seq az);have hr3:=(ax.azl (sQ (n:=x) (base:=w2) S3 (zR _))).2;obtain⟨fA,fn,fc,w4,bG,Ed,CY,-⟩:=EF w3 w ((l.take i).filter t) [x] A n c Tc w2 1 1 _ hr3 (by have h1:=List.length_filter_le t (l.take i);have h2:(l.take i).length<=i:=List.length_take_le ..;simp;omega) BD.size 58;obtain⟨HO4,qB⟩:=zJ2 Ed bG;have HB4:Hid (Bw w w4):=zH (BD.trans (grown_below Tc BD.size CY));clear bG Ed CY hr3 Tc BD az S3
  go_wp2_with (at_builtin;refine wO rfl (.tmp 17) (.tmp 19) 58 rfl (v1:=(A,n,c)) (v2:=.slice (some ⟨w2,0,none⟩) 1 1) rfl rfl qB ?_)
  go_roundw
  case rel=>exact⟨i+1,fA,fn,fc,zO,rfl,by go_num,by rw[sV.out];exact HO4,HB4.out⟩
  simp[intOf];omega
 obtain rfl:i=ln:=zO;have hd:=zT2 (i<i);have hE:l.take i=l:=l8 (by rw[pR.out];exact zR _);rw[hE] at ho;have HO:=zH ho;clear hE ho;go_wp2_with fail;go_ret
 exact⟨_,rfl,HO,hb⟩):p:=h
theorem aNn(g1 g2 g3:Nat)(t:Nat->Bool)(l:List Nat)(lA:Option Addr)(ln lc:Nat)(w:World)(aI:aY w (· <w) 1 aV l lA ln)(Zz:ln<1000000)
 (eH:∀i∈l,∀W:World,Bw w W->Rt 91 #[i,(g1,0),(g2,0),(g3,0)] W (t i)):
 Cl 90 #[(lA,ln,lc),.func (.func 91) #[] #[(g1,0),(g2,0),(g3,0)]] w λe w'=>∃v,e= .returned v/\ax w' w 3 1 aV (l.filter t) v/\Bw w w':=by
 obtain⟨vJ,lM⟩:=zJ2 eH aI;have hlen:ln=l.length:=aI.1;have pR:=zH hlen;clear eH aI hlen;go_enter func90,ntmps90;go_wp2_with fail
 go_loopw [5,10] (λs5 s10 W=>∃(i:Nat) (A:Option Addr) (n c:Nat),i<=ln/\s5= (A,n,c)/\s10= i/\ax W w 3 1 aV ((l.take i).filter t) (A,n,c)/\Bw w W) (λ_ s10 _=>ln - (intOf s10).toNat)
 case atStart=>exact⟨0,none,0,0,zO,rfl,rfl,by rw[List.take_zero];exact ax.nil _ _ _ _ _,j9 _ _⟩
 exact azA
theorem aQk(g1 g2 g3:Nat)(t:Nat->Bool)(l:List Nat)(lA:Option Addr)(ln lc:Nat)(w:World)(aI:aY w (· <w) 1 aV l lA ln)(Zz:ln<1000000)
 (eH:∀i∈l,∀W:World,Bw w W->Rt 97 #[i,(g1,0),(g2,0),(g3,0)] W (t i)):
 Cl 90 #[(lA,ln,lc),.func (.func 97) #[] #[(g1,0),(g2,0),(g3,0)]] w λe w'=>∃v,e= .returned v/\ax w' w 3 1 aV (l.filter t) v/\Bw w w':=by
 obtain⟨vJ,lM⟩:=zJ2 eH aI;have hlen:ln=l.length:=aI.1;have pR:=zH hlen;clear eH aI hlen;go_enter func90,ntmps90;go_wp2_with fail
 go_loopw [5,10] (λs5 s10 W=>∃(i:Nat) (A:Option Addr) (n c:Nat),i<=ln/\s5= (A,n,c)/\s10= i/\ax W w 3 1 aV ((l.take i).filter t) (A,n,c)/\Bw w W) (λ_ s10 _=>ln - (intOf s10).toNat)
 case atStart=>exact⟨0,none,0,0,zO,rfl,rfl,by rw[List.take_zero];exact ax.nil _ _ _ _ _,j9 _ _⟩
 exact azA
