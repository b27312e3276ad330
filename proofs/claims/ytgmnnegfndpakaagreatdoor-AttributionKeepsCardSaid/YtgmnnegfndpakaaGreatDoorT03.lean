import Derived.Test.YtgmnnegfndpakaaGreatDoorT01
import Derived.Test.YtgmnnegfndpakaaGreatDoorJ02
import Derived.Test.YtgmnnegfndpakaaGreatDoorJ03
set_option maxHeartbeats 20000000
set_option maxRecDepth 100000
namespace Go.Proofs.YtgmnnegfndpakaaGreatDoor
open Go.RowKit Go.Proofs.Tryz
theorem aGx{w:World}{g:Nat}(v:Value):Kept (· =g) w (w.setCell ⟨g,0,none⟩ v):=(Kept.refl (· =g) w).setCell (p:=⟨g,0,none⟩) (.inl rfl) v
def aAY(cs:List Value):Value:=.agg cs.toArray
def PlM(W:World)(F:Nat->Prop)(mb:Nat)(L:List (Nat×aJ)):Prop:=∃M:List (Int×List Value),gQ W mb vM aAY M/\∀i:Nat,(lkP L i=none->dP jL (i:Int) M=none)/\∀q,lkP L i=some q->∃cs,dP jL (i:Int) M=some cs/\au W F (aZ q) cs
theorem PlM.keep{W W':World}{F F':Nat->Prop}{mb:Nat}{L:List (Nat×aJ)}(h:PlM W F mb L)(hm:W'.heap[mb]?=W.heap[mb]?)(hF:∀q,F q->F' q/\W'.heap[q]?=W.heap[q]?):PlM W' F' mb L:=by
 obtain⟨M,h1,h2⟩:=h;refine⟨M,h1.keep hm,λi=>⟨(h2 i).1,λq hq=>?_⟩⟩;obtain⟨cs,h3,h4⟩:=(h2 i).2 q hq;exact⟨cs,h3,h4.keep hF⟩
theorem PlM.new{W:World}{F:Nat->Prop}{mb:Nat}(h:gQ W mb vM aAY []):PlM W F mb []:=⟨[],h,λi=>⟨λ_=>rfl,λq hq=>by cases hq⟩⟩
theorem apB(a b:Int):jL a b=true↔a=b:=by unfold jL;simp
theorem PlM.put{W W':World}{F:Nat->Prop}{mb:Nat}{L:List (Nat×aJ)}{M:List (Int×List Value)}(h2:∀i:Nat,(lkP L i=none->dP jL (i:Int) M=none)/\∀q,lkP L i=some q->∃cs,dP jL (i:Int) M=some cs/\au W F (aZ q) cs)
 {n:Nat} (hn:∀x∈L,x.1≠n) {p:aJ} {cs:List Value} (hp:au W F (aZ p) cs) (h1:gQ W' mb vM aAY (jh jL (n:Int) cs M)) (hF:∀q,F q->W'.heap[q]?=W.heap[q]?):PlM W' F mb (L++[(n,p)]):=by
 refine⟨_,h1,λi=>?_⟩;rw[Lr apB,aGs hn];by_cases e:n=i
 ·subst e;rw[if_pos rfl,if_pos ((apB _ _).2 rfl)];refine⟨λh=>(by cases h),λq hq=>⟨cs,rfl,?_⟩⟩;obtain rfl:=zI hq;exact hp.keep λb hb=>⟨hb,hF b hb⟩
 rw[if_neg e,if_neg (λh=>e (by have:=(apB _ _).1 h;omega))];refine⟨(h2 i).1,λq hq=>?_⟩;obtain⟨cs',h3,h4⟩:=(h2 i).2 q hq;exact⟨cs',h3,h4.keep λb hb=>⟨hb,hF b hb⟩⟩
structure PwI (W:World) (F:Nat->Prop) (gc gm gw mb:Nat) (n:Int) (L:List (Nat×aJ)):Prop where
 c:W.heap[gc]?=some (.cells #[.int .i64 n] 3)
 m:W.heap[gm]?=some (.cells #[.map (some mb)] 142)
 f:W.heap[gw]?=some (.cells #[.func (.func 149) #[] #[.pointer (some ⟨gc,0,none⟩),.pointer (some ⟨gm,0,none⟩),.pointer (some ⟨gw,0,none⟩)]] 161)
 p:PlM W F mb L
 lt:∀x∈L,(x.1:Int)<=n
theorem PwI.below{W W':World}{F:Nat->Prop}{gc gm gw mb:Nat}{n:Int}{L:List (Nat×aJ)}(h:PwI W F gc gm gw mb n L)(hF:∀q,F q->q<W.heap.size)(hb:Bw W W'):PwI W' F gc gm gw mb n L:=
 ⟨ae h.c hb,ae h.m hb,ae h.f hb,h.p.keep (hb.block mb (by obtain⟨M,h1,-⟩:=h.p;exact h1.lt)) λq hq=>⟨hq,hb.block q (hF q hq)⟩,h.lt⟩
theorem PwI.ne{W:World}{F:Nat->Prop}{gc gm gw mb:Nat}{n:Int}{L:List (Nat×aJ)}(h:PwI W F gc gm gw mb n L):gc≠gm/\gc≠gw/\gc≠mb/\gm≠mb/\gw≠mb:=by
 obtain⟨M,h1,-⟩:=h.p;refine⟨λe=>?_,λe=>?_,tK h.c h1,tK h.m h1,tK h.f h1⟩
 ·have:=h.c;rw[e,h.m] at this;simp at this
 have:=h.c;rw[e,h.f] at this;simp at this
theorem PwI.set{W:World}{F:Nat->Prop}{gc gm gw mb:Nat}{n:Int}{L:List (Nat×aJ)}(h:PwI W F gc gm gw mb n L)(hF:∀q,F q->q≠gc)(m:Int)(hm:n<=m):PwI (W.setCell ⟨gc,0,none⟩ (.int .i64 m)) F gc gm gw mb m L:=by
 obtain⟨n1,n2,n3,-,-⟩:=h.ne;have hk:∀q,q≠gc->(W.setCell ⟨gc,0,none⟩ (.int .i64 m)).heap[q]?=W.heap[q]?:=λq hq=>gq hq;refine⟨?_,(hk _ n1.symm).trans h.m,(hk _ n2.symm).trans h.f,h.p.keep (hk _ n3.symm) λq hq=>⟨hq,hk q (hF q hq)⟩,λx hx=>by have:=h.lt x hx;omega⟩;have:=bD (v:=.int .i64 m) h.c;exact this
theorem aNC(N:Int)(F:Nat->Prop)(gc gm gw mb:Nat)(p:aJ):∀(top:Bool) (num:Nat) (cs:List Value) (L:List (Nat×aJ)) (w:World),bT N top p=true->num+dh p<1000000->au w F (aZ p) cs->(∀q,F q->q<w.heap.size/\q≠gc/\q≠mb)->PwI w F gc gm gw mb ((num:Int) - 1) L->
 Cl 149 #[.agg cs.toArray,.pointer (some ⟨gc,0,none⟩),.pointer (some ⟨gm,0,none⟩),.pointer (some ⟨gw,0,none⟩)] w λe w'=>e= .returned (.tuple #[])/\PwI w' F gc gm gw mb ((num:Int)+(dh p:Int) - 1) (L++aaj p num)/\Kept (λq=>q=gc\/q=mb) w w':=by
 induction p using aJ.ind with
 | h k mn mx el cl pr args ih=>
   intro top num cs L w aKy lQ hr hF hI;obtain⟨c0,c1,c2,c3,c4,c5,A,n,c,rfl,eH,hn,aI⟩:=abU hr;obtain⟨ck,a1,a2,a3,B1,m1,d1,B2,m2,d2,Ar⟩:=eH.cells;simp only[List.cons.injEq,and_true] at Ar;obtain⟨rfl,rfl,rfl,rfl,rfl,rfl⟩:=Ar
   have SS:fD k=true->args=[]:=λh=>by
    have:=(ajR h aKy).2;exact this
   have CX:¬fD k=true->∀x∈args,bT N false x=true:=λh x hx=>apY (aFy aKy h) x hx;obtain⟨w1,bI,S1,nC,ai⟩:=zP1 w k mn mx el ck a1 a2 a3 B1 m1 d1 B2 m2 d2 pr A n c;have LV:au w1 F (aZ (.mk k mn mx el cl pr args)) [.int .i64 k,.int .i64 mn,.int .i64 mx,.int .i64 el,.int .i64 ck,.string a1,.string a2,.string a3,.slice B1 m1 d1,.slice B2 m2 d2,.int .i64 pr,.slice A n c]:=hr.keep λq hq=>⟨hq,ai.block q (hF q hq).1⟩;have hI1:=hI.below (λq hq=>(hF q hq).1) ai;obtain⟨m,hm⟩:∃m:Int,m=(num:Int) - 1:=⟨_,rfl⟩;rw[<-hm] at hI1;have iY: -1<=m:=zO;have nJ:m<1000000:=zO;have hI2:=hI1.set (λq hq=>(hF q hq).2.1) (m+1) zO;have hgn:w.heap.size≠gc:=λe=>(by have:=aC hI.c;omega);have hnW:dh (.mk k mn mx el cl pr args)=1+dZ args:=(by rw[dh]);have hnl:n=args.length:=(by have:=aI.1;rwa [z8] at this);have aND:bM w1 F 12 (args.map aZ) A n:=aI.keep λq hq=>⟨hq,ai.block q (hF q hq).1⟩;have S2:(w1.setCell ⟨gc,0,none⟩ (.int .i64 (m+1))).heap[w.heap.size]?=some (.cells #[.int .i64 k,.int .i64 mn,.int .i64 mx,.int .i64 el,.int .i64 ck,.string a1,.string a2,.string a3,.slice B1 m1 d1,.slice B2 m2 d2,.int .i64 pr,.slice A n c] 29):=(gq hgn).trans S1;have hg0:gc<w.heap.size:=aC hI.c;have hmb:mb<w.heap.size:=(by obtain⟨M,h1,-⟩:=hI.p;exact h1.lt);obtain⟨w2,mJ⟩:=zF (w1.setCell ⟨gc,0,none⟩ (.int .i64 (m+1)));rw[mJ] at hI2 S2;have dm:Kept (λq=>q=gc\/q=mb) w w2:=(Kept.of_below ai).trans (by rw[<-mJ];exact fE (aGx _) λq hq=>.inl hq);have DR:bM w2 F 12 (args.map aZ) A n:=aI.keep λq hq=>⟨hq,dm.block q (hF q hq).1 (by have:=hF q hq;omega)⟩;have hr2:au w2 F (aZ (.mk k mn mx el cl pr args)) [.int .i64 k,.int .i64 mn,.int .i64 mx,.int .i64 el,.int .i64 ck,.string a1,.string a2,.string a3,.slice B1 m1 d1,.slice B2 m2 d2,.int .i64 pr,.slice A n c]:=hr.keep λq hq=>⟨hq,dm.block q (hF q hq).1 (by have:=hF q hq;omega)⟩;obtain⟨e0,f0,q0,e1,e2,e3,rZ,HF⟩:=zK8 (aO hI1.c) (frozen_of_row w1 gc 0 _ _ hI1.c) (aj S2) (aO hI2.c) (aO hI2.m) (aO hI2.f) (zH ih) (zH hF);obtain⟨HI2,RG,lM,HR,HLF,HEV,HM,acC⟩:=zJ8 hI2 dm DR hr2 SS CX hm lQ;obtain⟨HNW,Du,gY,HW2,HMB,HG0⟩:=zJ6 hnW hnl S2 mJ hmb hg0;have HLT:Hid (∀x∈L,(x.1:Int)<=(num:Int) - 1):=zH hI.lt;clear ih hF hI hI1 hI2 hr LV hr2 aI aND DR SS CX hm lQ hnW hnl aKy eH S1 S2 dm hmb hg0 hgn;go_enter func149,ntmps149;obtain⟨lb,hlb⟩:=zF (fD k);have HLB:=zH hlb;clear hlb;go_upto_region 2 with fail
   go_cut [16] (λs16 W=>s16= .bool lb/\w2=W)
   case first=>
    by_cases eu:k=1
    ·subst eu;have hx:true=lb:=HLB.out;subst hx;go_wp2_with fail;go_meet;exact⟨rfl,rfl⟩
    have gJ:(k==1)=false:=(by simpa using eu);have hx:(k==2)=lb:=(by rw[<-HLB.out];unfold fD;rw[decide_eq_false eu,Bool.false_or];rfl);go_wp2_with fail;go_meet;exact⟨rfl,rfl⟩
   case rest=>
   obtain⟨rfl,rfl⟩:=hcut;obtain⟨ow,Zk⟩:=zF ((if fD k=true then [(num,aJ.mk k mn mx el cl pr args)] else []));have Px:=zH Zk;clear Zk;go_upto_if 16 with fail
   go_cut [] (λwc=>PwI wc F gc gm gw mb ((num:Int)) (L++ow)/\Kept (λq=>q=mb) w2 wc)
   case first=>
    cases lb
    ·have e1:ow=[]:=(by rw[<-Px.out,if_neg (by rw[HLB.out];simp)]);have E1:=zH e1;clear e1;go_wp2_with fail;go_meet;exact⟨by rw[E1.out,List.append_nil,show (num:Int)=m+1 by have:=HM.out;omega];exact HI2.out,Kept.refl _ _⟩
    have e1:ow=[(num,aJ.mk k mn mx el cl pr args)]:=(by rw[<-Px.out,if_pos HLB.out]);have E1:=zH e1;clear e1;obtain⟨M,hM1,hM2⟩:=HI2.out.p;obtain⟨yY,uy⟩:=zJ2 hM1 hM2;clear hM1 hM2
    go_wp2_with (with_reducible refine Lc rfl (.tmp 17) (.tmp 18) (.tmp 19) 142 rfl (et:=29) (val:=aAY) qJ underlying142 mb M rfl yY.out (m+1) rfl [.int .i64 k,.int .i64 mn,.int .i64 mx,.int .i64 el,.int .i64 ck,.string a1,.string a2,.string a3,.slice B1 m1 d1,.slice B2 m2 d2,.int .i64 pr,.slice A n c] rfl ?_;intro oH j1 j2 j3 j4;have HJ1:=zH j1;have HJ2:=zH j2;have HJ4:=zH j4;clear j1 j2 j3 j4)
    go_meet;obtain⟨-,-,n3,n4,n5⟩:=HI2.out.ne;have hme:m+1=(num:Int):=(by have:=HM.out;omega);refine⟨⟨?_,(HJ2.out _ n4).trans HI2.out.m,(HJ2.out _ n5).trans HI2.out.f,?_,?_⟩,HJ4.out⟩
    ·rw[<-hme];exact(HJ2.out _ n3).trans HI2.out.c
    ·rw[E1.out];refine PlM.put uy.out (λx hx=>?_) HR.out (by rw[<-hme];exact HJ1.out) λq hq=>HJ2.out q (HF.out q hq).2.2;have:=HI2.out.lt x hx;have h2:=HLT.out x hx;omega
    intro x hx;rw[E1.out] at hx
    rcases z12.1 hx with h | h
    ·have:=HI2.out.lt x h;omega
    rw[og] at h;subst h;exact Int.le_refl _
   obtain⟨hic,GN⟩:=hcut;have bY:w2.heap.size<=wc.heap.size:=GN.size;have hgw:w.heap.size<w2.heap.size:=aC gY.out;have Sc:wc.heap[w.heap.size]?=some (.cells #[.int .i64 k,.int .i64 mn,.int .i64 mx,.int .i64 el,.int .i64 ck,.string a1,.string a2,.string a3,.slice B1 m1 d1,.slice B2 m2 d2,.int .i64 pr,.slice A n c] 29):=(GN.block _ hgw (by have:=HMB.out;omega)).trans gY.out;clear q0 e0 e1 e2 e3 f0;have q0:=aj Sc;have aNL:bM wc F 12 (args.map aZ) A n:=lM.out.keep λq hq=>⟨hq,GN.block q (by have:=HF.out q hq;have:=RG.out.size;omega) (HF.out q hq).2.2⟩;have lH:Kept (λq=>q=gc\/q=mb) w wc:=RG.out.trans (fE GN λq hq=>.inr hq);obtain⟨HIC,ayg,rM⟩:=zJ3 hic aNL lH;clear hic GN aNL lH Sc hgw;go_wp2_with fail
   go_loopw [23] (λsi W=>∃i:Nat,i<=n/\si= .int .i64 i/\PwI W F gc gm gw mb ((num:Int)+(dZ (args.take i):Int)) (L++ow++aaH (args.take i) (num+1))/\Kept (λq=>q=gc\/q=mb) wc W) (λsi _=>n - (intOf si).toNat)
   case atStart=>
    refine⟨0,zO,rfl,?_,Kept.refl _ _⟩;rw[List.take_zero,aaH,dZ,List.append_nil];simpa using HIC.out
   obtain⟨i,hi,rfl,BZ,o9⟩:=hrel;clear q0;by_cases aN:i<n
   ·have gJ:=zT1 (i<n);have hnk:¬fD k=true:=λh=>(by have:=Du.out;rw[HLF.out h] at this;simp at this;omega);have hFr:∀q,F q->q<wr.heap.size/\q≠gc/\q≠mb:=λq hq=>(by have:=HF.out q hq;have:=rM.out.size;have:=o9.size;omega);have avo:bM wr F 12 (args.map aZ) A n:=ayg.out.keep λq hq=>⟨hq,o9.block q (by have:=HF.out q hq;have:=rM.out.size;omega) (by have:=HF.out q hq;omega)⟩;obtain⟨b,off,px,y0,y1,y2,y3,y4,y5,y6,y7,y8,y9,y10,y11,HX,eG,z0,z1,z2,z3,z4,z5,z6,z7,z8,z9,nZ,og,dO⟩:=avo.DW aN c;obtain⟨kx,gU,gz,gZ,ig,ik,iq,iw,iy,iC,iD,iE,iF,iG,iH,Ax,nx,cx,fJ,-⟩:=aW eG;simp only[List.cons.injEq,and_true] at fJ;obtain⟨rfl,rfl,rfl,rfl,rfl,rfl,rfl,rfl,rfl,rfl,rfl,rfl⟩:=fJ;obtain⟨w4,vV,S4,IX,aX⟩:=zP1 wr kx gU gz gZ ig ik iq iw iy iC iD iE iF iG iH Ax nx cx;have x0:=aj S4;have aGy:=BZ.below (λq hq=>(hFr q hq).1) aX;have e3:=aO aGy.f;have ael:au w4 F (aZ px) [.int .i64 kx,.int .i64 gU,.int .i64 gz,.int .i64 gZ,.int .i64 ig,.string ik,.string iq,.string iw,.slice iy iC iD,.slice iE iF iG,.int .i64 iH,.slice Ax nx cx]:=eG.keep λq hq=>⟨hq,aX.block q (hFr q hq).1⟩;have yB:=ayM HX.out;have qY:=aEo args (i+1)
    have yC:=rZ.out px (SK HX.out) false (num+1+dZ (args.take i)) _ (L++ow++aaH (args.take i) (num+1)) w4 (HEV.out hnk px (SK HX.out)) (by have:=acC.out;have:=HNW.out;omega) ael (λq hq=>by have:=hFr q hq;omega) (by
     have e:((num+1+dZ (args.take i):Nat):Int) - 1=(num:Int)+(dZ (args.take i):Int):=zO
     rw[e];exact aGy)
    have hz:((num+1+dZ (args.take i):Nat):Int)+(dh px:Int) - 1=(num:Int)+(dZ (args.take (i+1)):Int):=zO;rw[hz,List.append_assoc,<-atx HX.out] at yC;have RY:=zH yC;have Eg:=zH (o9.trans (Kept.of_below aX));clear yC o9 BZ aGy aX eG ael avo yB qY hz S4 hFr
    go_wp2_with (go_at_call 149;refine RY.out.mono ?_;rintro e w5 ⟨rfl,h5,h6⟩;have H5:=zH h5;have H6:=zH h6;clear h5 h6)
    go_roundw
    case rel=>exact⟨i+1,zO,by go_num,H5.out,Eg.out.trans H6.out⟩
    simp[intOf];omega
   have gJ:=zT2 (i<n);have jo:args.take i=args:=List.take_of_length_le (by rw[<-Du.out];omega);rw[jo] at BZ;have HMI:=zH BZ;clear BZ jo;go_wp2_with fail
   go_end0
   refine⟨rfl,?_,rM.out.trans o9⟩;rw[aNB HLF.out num,Px.out,<-List.append_assoc,show (num:Int)+(dh (aJ.mk k mn mx el cl pr args):Int) - 1=(num:Int)+(dZ args:Int) by have:=HNW.out;omega];exact HMI.out
theorem aO7(N:Int)(p:aJ)(cs:List Value)(w:World)(aKy:bT N true p=true)(lQ:dh p<100000)(hr:au w (· <w.heap.size) (aZ p) cs):
 Cl 87 #[.agg cs.toArray] w λe w'=>∃mb,e= .returned (.map (some mb))/\PlM w' (· <w.heap.size) mb (aaj p 0)/\w.heap.size<=mb/\Bw w w':=by
 obtain⟨k,mn,mx,el,ck,ns,nl,sp,A1,n1,c1,A2,n2,c2,pr,A,n,c,rfl,-⟩:=aW hr;obtain⟨w1,bI,S1,S2,S3,S4,S5,nC,ai⟩:=ade w (.cells #[.int .i64 k,.int .i64 mn,.int .i64 mx,.int .i64 el,.int .i64 ck,.string ns,.string nl,.string sp,.slice A1 n1 c1,.slice A2 n2 c2,.int .i64 pr,.slice A n c] 29) (.map #[] 0) (.cells #[.map (some (w.heap.size+1))] 142) (.cells #[.int .i64 (-1)] 3) (.cells #[.func (.func 149) #[] #[.pointer (some ⟨w.heap.size+1+1+1,0,none⟩),.pointer (some ⟨w.heap.size+1+1,0,none⟩),.pointer (some ⟨w.heap.size+1+1+1+1,0,none⟩)]] 161);have q0:=aj S1;have e5:=aO S5;have hI:PwI w1 (· <w.heap.size) (w.heap.size+1+1+1) (w.heap.size+1+1) (w.heap.size+1+1+1+1) (w.heap.size+1) (((0:Nat):Int) - 1) []:=⟨S4,S3,S5,PlM.new S2,λx hx=>by cases hx⟩;have HC:=zH (aNC N (· <w.heap.size) (w.heap.size+1+1+1) (w.heap.size+1+1) (w.heap.size+1+1+1+1) (w.heap.size+1) p true 0 _ [] w1 aKy zO (hr.below ai) (λq hq=>⟨zO,zO,zO⟩) hI);have nK:=zH ai;have L8:=@run_makeMap prog;clear S1 S2 S3 S4 S5 hI hr aKy ai;go_enter func87,ntmps87;go_wp2_with fail;refine HC.out.mono ?_;rintro e w2 ⟨rfl,hI2,dm⟩;have e6:=aO hI2.m;obtain⟨HI2,RG⟩:=zJ2 hI2 dm;clear hI2 dm;go_wp2_with fail;go_ret;refine⟨_,rfl,by have h:=HI2.out.p;rwa [List.nil_append] at h,zO,?_⟩;exact⟨RG.out.os.trans nK.out.os,RG.out.tape.trans nK.out.tape,RG.out.output.trans nK.out.output,zT nK.out.size RG.out.size,λq hq=>(RG.out.block q zO zO).trans (nK.out.block q hq)⟩
theorem aRk(elems:List (List Nm))(p:aJ)(cs:List Value)(a b:ByteArray)(w:World)(eA:Option Addr)(en ec:Nat)(hE:bM w (· <w.heap.size) 1 (elems.map nU) eA en)(jR:en<6000000000000)(hr:au w (· <w.heap.size) (aZ p) cs)(hl:xE elems p):
 Rt 92 #[.agg cs.toArray,.slice eA en ec,.agg #[.string a,.string b]] w (.bool (Gf elems p (a,b))):=by
 obtain⟨k,mn,mx,el,ck,ns,nl,sp,A1,n1,c1,A2,n2,c2,pr,A,n,c,rfl,hk,-,-,lT,-,eH,-⟩:=aW hr;obtain⟨w1,bI,S1,S2,nC,ai⟩:=zP2 w k mn mx el ck ns nl sp A1 n1 c1 A2 n2 c2 pr A n c (.cells #[.string a,.string b] 23);obtain⟨q0,q1,q2,q3,q4,q5,q6,q7,q8,q9,aF,aG⟩:=aj S1;obtain⟨r0,r1⟩:=dw S2;obtain⟨v,hv⟩:=zF (Gf elems p (a,b));rw[hv];have HV:=zH hv;clear S1 S2 hv;by_cases eu:k=1
 ·subst eu;obtain⟨h0,h1⟩:=hl hk;rw[lT] at h0 h1;obtain⟨i,rfl⟩:∃i:Nat,el=i:=⟨el.toNat,zO⟩;have hlen:=hE.1;rw[z8] at hlen;have hi:i<en:=zO;clear hlen;obtain⟨ob,off,x,Ax,nx,cx,HX,hxn,aI,GI,dO⟩:=(hE.below ai).Uk hi ec;have HR:Hid (aY w1 (· <w.heap.size) 2 dK x Ax nx):=zH aI
  have hVV:ru x a b=v:=by
   have h:=HV.out;unfold Gf elemAt at h;rw[hk,if_pos rfl,lT,Int.toNat_natCast,HX.out] at h;rw[<-h];show ru x a b=(List.any x (eqN (a,b)));clear h HV HX aI hxn HR GI
   induction x with
   | nil=>rfl
   | cons y x ih=>rw[ru,List.any_cons,ih];unfold eqN;rw[NL y.1,NL y.2]
  have QA:=zH hVV;have hk0:((1:Int)==1)=true:=rfl;clear aI hVV hl hE eH hr h0 h1;go_enter func92,ntmps92;go_wp2_with fail;obtain⟨sq3,sr0,sr1,sc1⟩:=zK4 (Since.cell q3) (Since.cell r0) (Since.cell r1) (Since.cell GI);have HRS:Hid (∀p:Since w1,aY p.wld (· <w.heap.size) 2 dK x Ax nx):=zH λp=>HR.out.below (p.below.mono ai.size);refine yh zK zK ?_
  repeat (quiet_step (first
   | (go_at_call_of 129 (Value.slice Ax nx cx);exact Eo (Xn a b x Ax nx cx _ _ (HRS.out _) zO QA.out))))
  refine wpQuiet_nil ?_;intro wq hq;have Xo:=Ap hq;clear hq;go_wp2_with fail;go_ret;exact⟨rfl,ai.seq Xo⟩
 have hk0:(k==1)=false:=(by simpa using eu);obtain⟨x1,Cb⟩:=zF ((xg (xO p.cls) (jJ a b) (pK p.cls a b)).1);obtain⟨x2,FI⟩:=zF ((xg (xO p.cls) (jJ a b) (pK p.cls a b)).2)
 have DV:(x1&&decide (x2=0))=v:=by
  have h:=HV.out;unfold Gf at h;rw[hk,if_neg eu] at h;rw[<-Cb,<-FI];exact h
 have QA:=zH DV
 have HH:Hid (Rt 155 #[.agg #[.int .i64 ck,.string ns,.string nl,.string sp,.slice A1 n1 c1,.slice A2 n2 c2],.agg #[.string a,.string b]] w1 (.tuple #[.bool x1,.int .i64 x2])):=zH (by
  have h:=arn a b p.cls _ w1 _ (eH.keep (F':=λ_=>True) λq _ hq=>⟨trivial,ai.block q hq⟩)
  rw[Cb,FI] at h;exact h)
 clear DV Cb FI hl hE eH hr hk;go_enter func92,ntmps92;go_wp2_with fail;refine HH.out.mono ?_;rintro e w2 ⟨rfl,ag⟩;cases x1
 all_goals
  by_cases hx:x2=0
  all_goals
   have hxx:(x2==0)=decide (x2=0):=rfl;have HX:=zH hx;go_wp2_with fail;go_ret;exact⟨by rw[<-QA.out];simp[HX.out],ai.seq ag⟩
theorem ayR{t:Nat->Bool}{l:List Nat}{i x:Nat}(h:l[i]?=some x):(l.take (i+1)).filter t=(l.take i).filter t++if t x then [x] else []:=by
 obtain⟨hi,rfl⟩:=z4.1 h;rw[List.take_succ_eq_append_getElem hi,List.filter_append,List.filter_cons]
 split<;>rfl
theorem aAN{p:Prop} (h:p:=by
 obtain⟨i,A,n,c,hi,rfl,rfl,ho,hb⟩:=hrel;by_cases aN:i<ln
 ·have hd:=zT1 (i<ln);obtain⟨b,off,x,HX,hc0,dO⟩:=(lM.out.keepW hb).nat aN lc;obtain⟨tv,htv⟩:=zF (t x);have yC:=vJ.out x (SK HX.out) wr hb;rw[htv] at yC;have bZ:=ayR (t:=t) HX.out;rw[htv] at bZ;obtain⟨RY,sV,HO,HB⟩:=zJ4 yC bZ ho hb;clear htv yC bZ ho;cases tv
  ·go_wp2_with fail;refine RY.out.mono ?_;rintro e w2 ⟨rfl,ag⟩;go_wp2_with fail;go_roundw
   case rel=>exact⟨i+1,A,n,c,zO,rfl,by go_num,by rw[sV.out];simpa using HO.out.keep ag,HB.out.seq ag⟩
   simp[intOf];omega
  go_wp2_with fail;refine RY.out.mono ?_;rintro e w2 ⟨rfl,ag⟩;obtain⟨w3,vU,S3,su,az⟩:=af w2 (.cells #[.int .i64 (x:Int)] 3);have Tc:=HO.out.keep (ag.seq az);have BD:=HB.out.seq (ag.seq az);have hr3:=(ax.azl (sQ (n:=x) (base:=w2.heap.size) S3 (zR _))).2;obtain⟨fA,fn,fc,w4,bG,Ed,CY,-⟩:=EF w3 w.heap.size ((l.take i).filter t) [x] A n c Tc (some ⟨w2.heap.size,0,none⟩) 1 1 _ hr3 (by have h1:=List.length_filter_le t (l.take i);have h2:(l.take i).length<=i:=List.length_take_le ..;simp;omega) BD.size 58;obtain⟨HO4,qB⟩:=zJ2 Ed bG;have HB4:Hid (Bw w w4):=zH (BD.trans (grown_below Tc BD.size CY));clear bG Ed CY hr3 Tc BD az S3
  go_wp2_with (at_builtin;refine wO rfl (.tmp 17) (.tmp 19) 58 rfl (v1:=.slice A n c) (v2:=.slice (some ⟨w2.heap.size,0,none⟩) 1 1) rfl rfl qB.out ?_)
  go_roundw
  case rel=>exact⟨i+1,fA,fn,fc,zO,rfl,by go_num,by rw[sV.out];exact HO4.out,HB4.out⟩
  simp[intOf];omega
 obtain rfl:i=ln:=zO;have hd:=zT2 (i<i);have hE:l.take i=l:=List.take_of_length_le (by rw[pR.out];exact zR _);rw[hE] at ho;have HO:=zH ho;clear hE ho;go_wp2_with fail;go_ret
 exact⟨_,rfl,HO.out,hb⟩):p:=h
theorem aNn(g1 g2 g3:Nat)(t:Nat->Bool)(l:List Nat)(lA:Option Addr)(ln lc:Nat)(w:World)(aI:aY w (· <w.heap.size) 1 aV l lA ln)(Zz:ln<1000000)
 (eH:∀i∈l,∀W:World,Bw w W->Rt 91 #[.int .i64 (i:Int),.pointer (some ⟨g1,0,none⟩),.pointer (some ⟨g2,0,none⟩),.pointer (some ⟨g3,0,none⟩)] W (.bool (t i))):
 Cl 90 #[.slice lA ln lc,.func (.func 91) #[] #[.pointer (some ⟨g1,0,none⟩),.pointer (some ⟨g2,0,none⟩),.pointer (some ⟨g3,0,none⟩)]] w λe w'=>∃v,e= .returned v/\ax w' w.heap.size 3 1 aV (l.filter t) v/\Bw w w':=by
 obtain⟨vJ,lM⟩:=zJ2 eH aI;have hlen:ln=l.length:=aI.1;have pR:=zH hlen;clear eH aI hlen;go_enter func90,ntmps90;go_wp2_with fail
 go_loopw [5,10] (λs5 s10 W=>∃(i:Nat) (A:Option Addr) (n c:Nat),i<=ln/\s5= .slice A n c/\s10= .int .i64 i/\ax W w.heap.size 3 1 aV ((l.take i).filter t) (.slice A n c)/\Bw w W) (λ_ s10 _=>ln - (intOf s10).toNat)
 case atStart=>exact⟨0,none,0,0,zO,rfl,rfl,by rw[List.take_zero];exact ax.nil _ _ _ _ _,Below.refl _ _⟩
 exact aAN
theorem aQk(g1 g2 g3:Nat)(t:Nat->Bool)(l:List Nat)(lA:Option Addr)(ln lc:Nat)(w:World)(aI:aY w (· <w.heap.size) 1 aV l lA ln)(Zz:ln<1000000)
 (eH:∀i∈l,∀W:World,Bw w W->Rt 97 #[.int .i64 (i:Int),.pointer (some ⟨g1,0,none⟩),.pointer (some ⟨g2,0,none⟩),.pointer (some ⟨g3,0,none⟩)] W (.bool (t i))):
 Cl 90 #[.slice lA ln lc,.func (.func 97) #[] #[.pointer (some ⟨g1,0,none⟩),.pointer (some ⟨g2,0,none⟩),.pointer (some ⟨g3,0,none⟩)]] w λe w'=>∃v,e= .returned v/\ax w' w.heap.size 3 1 aV (l.filter t) v/\Bw w w':=by
 obtain⟨vJ,lM⟩:=zJ2 eH aI;have hlen:ln=l.length:=aI.1;have pR:=zH hlen;clear eH aI hlen;go_enter func90,ntmps90;go_wp2_with fail
 go_loopw [5,10] (λs5 s10 W=>∃(i:Nat) (A:Option Addr) (n c:Nat),i<=ln/\s5= .slice A n c/\s10= .int .i64 i/\ax W w.heap.size 3 1 aV ((l.take i).filter t) (.slice A n c)/\Bw w W) (λ_ s10 _=>ln - (intOf s10).toNat)
 case atStart=>exact⟨0,none,0,0,zO,rfl,rfl,by rw[List.take_zero];exact ax.nil _ _ _ _ _,Below.refl _ _⟩
 exact aAN
