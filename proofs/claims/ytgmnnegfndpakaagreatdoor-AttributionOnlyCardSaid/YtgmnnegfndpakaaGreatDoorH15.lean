import Derived.Test.YtgmnnegfndpakaaGreatDoorH12
set_option maxHeartbeats 20000000
set_option maxRecDepth 100000
namespace Go.Proofs.YtgmnnegfndpakaaGreatDoor
open Go.RowKit Go.Proofs.Tryz
variable{elems:List (List Nm)}{p:aJ}{i:Nat}
theorem FM{v:Int}(p:aJ)(cs:List Value)(w:World)(F:Nat->Prop)(h:au w F (aZ p) cs)(hv:dC p=v):
 Rt 52 #[.agg cs.toArray] w v:=by subst hv;exact ajs p cs w F h
theorem aa8{v:Bool}(l:List (List Nm))(A:Option Addr)(n c:Nat)(w:World)(F:Nat->Prop)(bQ:bM w F 1 (l.map nU) A n)(hn:n<6000000000000)(hv:l.any badL=v):
 Rt 46 #[(A,n,c),.func (.func 47) #[] #[]] w v:=by subst hv;exact aa3 l A n c w F bQ hn
theorem amF{d m:Nat}(p:aJ)(cs:List Value)(w:World)(F:Nat->Prop)(h:au w F (aZ p) cs)(hv:kJ 10 p=(d,m)):
 Rt 49 #[.agg cs.toArray,(10:Int)] w (.tuple #[d,m]):=by
 have:=amw 10 p cs w F h zO;rw[hv] at this;exact this
theorem I8(h:60<elems.length\/elems.any badL=true):kN elems p=2:=by unfold kN;rw[j6 h]
theorem acp(h1:¬60<elems.length)(h2:elems.any badL=false):kN elems p=if IG p=true then 3 else if (bU p.mn p.mx&&bT elems.length true p)=false then 2 else if p.kind≠5/\200<dC p then 3 else 0:=by
 unfold kN;rw[j5];rintro (h | h)
 ·exact h1 h
 rw[h2] at h;cases h
theorem ayT{p:Prop} (h:p:=by
 have d0:w3.drew.cell? w=k:=q0;obtain⟨wa,BK,Sa,nD,bJ⟩:=af w3.drew (Zc #[.nilFunc] 86);have da:wa.cell? w=k:=(aj (ae aQ (lX.seq (show Bw w3 wa from ⟨bJ.os,bJ.tape,bJ.output,bJ.size,bJ.block⟩)))).1;have Df:=zH Sa;clear Sa
 go_region_with
  (first | (go_at_call 50;refine (BN _).mono ?_
            rintro e w4 ⟨b1,b2,b3,b4,gm,rfl,lu,aX,jT⟩;have pg:=apN w4 gm b2 b4 lu.2.2.2.2;have o6:Bw w3 w4:=(by first | exact⟨aX.os,aX.tape,aX.output,aX.size,aX.block⟩ | exact(show Bw w3 wa from ⟨bJ.os,bJ.tape,bJ.output,bJ.size,bJ.block⟩).seq aX);obtain⟨w5,pq,S5,IY,bg⟩:=af w4 (Zc #[.nilFunc] 86);have acu:=apN w5 gm b2 b4 (lu.below bg).2.2.2.2;clear q0 q1 q2 q3 q4 q5 q6 q7 q8 q9 aF aG;obtain⟨q0,q1,q2,q3,q4,q5,q6,q7,q8,q9,aF,aG⟩:=aj (ae aQ (lX.seq o6));obtain⟨r0,r1,r2,r3,r4,r5,r6,r7,r8,r9,r10,r11⟩:=aj (ae aQ ((lX.seq o6).seq bg));obtain⟨c5,f5,dX,rP,vW,lC⟩:=zK6 (aO S5) (k8 w5 w4 0 _ _ S5) (zH lu) (zH o6) (zH S5) (zH jT)
            try (have S6:=ae Df aX;have c6:w4.cell? w3=some .nilFunc:=aO S6;have f6:w4.frozen? w3=false:=k8 w4 _ 0 _ _ S6;have yX:=zH S6;clear S6)
            clear lu S5 jT))
 all_goals
  go_wp2_with fail;go_meet;have jT:=lC.out;have NU:=rP.size
  first
   | exact⟨w4,b1,b2,b3,b4,gm,rfl,rfl,bD vW,dX.below (bg.setCell (zR _) _),(rP.seq bg).setCell (by show w3.heap.size<=w4;omega) _⟩
   | exact⟨w3,b1,b2,b3,b4,gm,rfl,rfl,bD yX,dX.set _ (by have:=nD;have:w3.heap.size<wa:=this;omega) (by have:=nD;have:w3.heap.size<wa:=this;omega) (by have:=nD;have:w3.heap.size<wa:=this;omega) (by have:=nD;have:w3.heap.size<wa:=this;omega) (by have:=nD;have:w3.heap.size<wa:=this;omega),rP.setCell (zR _) _⟩):p:=h
theorem BQ(elems:List (List Nm))(p:aJ)(cs:List Value)(A9:Option Addr)(n9 c9:Nat)(w:World)(F F9:Nat->Prop)(h:au w F (aZ p) cs)(hE:bM w F9 1 (elems.map nU) A9 n9)(GV:n9<6000000000000):
 Rt 13 #[.agg cs.toArray,(A9,n9,c9)] w (kN elems p):=by
 have bH:=au.here _ _ (jK _) h;have lT:=bM.here hE (Nz _);have Xc:=zH lT;obtain⟨k,mn,mx,el,ck,ns,nl,sp,A1,n1,c1,A2,n2,c2,pr,A,n,c,rfl,hk,-⟩:=aW bH;obtain⟨w1,bI,S1,lY,ai⟩:=zP1 w k mn mx el ck ns nl sp A1 n1 c1 A2 n2 c2 pr A n c;obtain⟨aQ,jG,HK⟩:=zJ3 S1 bH hk;have pR:Hid (n9=elems.length):=zH (by have:=lT.1;rwa [z8] at this);obtain⟨R,hR⟩:=zF (kN elems p);rw[hR];have HR:=zH hR;obtain⟨q0,q1,q2,q3,q4,q5,q6,q7,q8,q9,aF,aG⟩:=aj S1;clear S1 h bH hk hE lT hR;by_cases xQ:60<n9
 ·have hd:=zT1 ((60:Int)<(n9:Int));have HX:Hid (R=2):=zH (by rw[<-HR.out];exact I8 (.inl (by rw[<-pR.out];exact xQ)));clear xQ;go_enter func13,ntmps13;go_wp2_with fail;go_ret;exact⟨by rw[HX.out];rfl,ai⟩
 have hd:=zT2 ((60:Int)<(n9:Int));obtain⟨av,D6⟩:=zF (elems.any badL);have HAV:=zH D6;have NT:Hid (Rt 46 #[(A9,n9,c9),.func (.func 47) #[] #[]] w1 av):=zH (aa8 elems A9 n9 c9 w1 _ (Xc.below ai) GV D6);clear D6;cases av
 rotate_left 1
 ·have HX:Hid (R=2):=zH (by rw[<-HR.out];exact I8 (.inr HAV));go_enter func13,ntmps13;go_wp2_with fail;refine NT.mono ?_;rintro e w2 ⟨rfl,ag⟩;go_wp2_with fail;go_ret;exact⟨by rw[HX.out];rfl,ai.seq ag⟩
 have qG:Hid (R=if IG p=true then 3 else if (bU p.mn p.mx&&bT elems.length true p)=false then 2 else if p.kind≠5/\200<dC p then 3 else 0):=zH (by rw[<-HR.out];exact acp (by rw[<-pR.out];exact xQ) HAV);clear xQ;obtain⟨⟨d,m⟩,hdm⟩:∃v,kJ 10 p=v:=⟨_,rfl⟩;have hbN:=arq p;rw[hdm] at hbN;have HBN:=zH hbN;have QX:Hid (∀W,Bw w1 W->Rt 49 #[.agg (o5 k mn mx el ck ns nl sp A1 n1 c1 A2 n2 c2 pr A n c),(10:Int)] W (.tuple #[d,m])):=zH λW hW=>amF p _ W _ (jG.below (ai.seq hW)) hdm;clear hbN hdm;by_cases AP:10<d
 ·have gJ:=zT1 ((10:Int)<(d:Int));have HX:Hid (R=3):=zH (by rw[qG.out,j6];rw[<-HBN.out];simp[AP]);clear AP;go_enter func13,ntmps13;go_wp2_with fail;refine NT.mono ?_;rintro e w2 ⟨rfl,ag⟩;clear q0 q1 q2 q3 q4 q5 q6 q7 q8 q9 aF aG;obtain⟨q0,q1,q2,q3,q4,q5,q6,q7,q8,q9,aF,aG⟩:=aj (ae aQ ag);go_wp2_with fail;refine (QX w2 ag).mono ?_;rintro e w3 ⟨rfl,az⟩;go_wp2_with fail;go_ret;exact⟨by rw[HX.out];rfl,ai.seq (ag.seq az)⟩
 have gJ:=zT2 ((10:Int)<(d:Int));by_cases Xd:40<m
 ·have jc:=zT1 ((40:Int)<(m:Int));have HX:Hid (R=3):=zH (by rw[qG.out,j6];rw[<-HBN.out];simp[Xd]);clear AP Xd;go_enter func13,ntmps13;go_wp2_with fail;refine NT.mono ?_;rintro e w2 ⟨rfl,ag⟩;clear q0 q1 q2 q3 q4 q5 q6 q7 q8 q9 aF aG;obtain⟨q0,q1,q2,q3,q4,q5,q6,q7,q8,q9,aF,aG⟩:=aj (ae aQ ag);go_wp2_with fail;refine (QX w2 ag).mono ?_;rintro e w3 ⟨rfl,az⟩;go_wp2_with fail;go_ret;exact⟨by rw[HX.out];rfl,ai.seq (ag.seq az)⟩
 have jc:=zT2 ((40:Int)<(m:Int));have ZX:Hid (R=if (bU p.mn p.mx&&bT elems.length true p)=false then 2 else if p.kind≠5/\200<dC p then 3 else 0):=zH (by rw[qG.out,j5];rw[<-HBN.out];simp[AP,Xd]);clear AP Xd;obtain⟨fv,is,o8,hno,alU⟩:=avY k;obtain⟨HLO,HNO,alV⟩:=zJ3 o8 hno alU;clear o8 hno alU;go_enter func13,ntmps13;go_wp2_with fail;refine NT.mono ?_;rintro e w2 ⟨rfl,ag⟩;clear q0 q1 q2 q3 q4 q5 q6 q7 q8 q9 aF aG;obtain⟨q0,q1,q2,q3,q4,q5,q6,q7,q8,q9,aF,aG⟩:=aj (ae aQ ag);go_wp2_with fail;refine (QX w2 ag).mono ?_;rintro e w3 ⟨rfl,az⟩;clear q0 q1 q2 q3 q4 q5 q6 q7 q8 q9 aF aG;have lX:=zH (ag.seq az);obtain⟨q0,q1,q2,q3,q4,q5,q6,q7,q8,q9,aF,aG⟩:=aj (ae aQ lX);go_upto_region 6 with fail
 cases is with
 | false=>
   have hn:=(HNO rfl).1;have apN:=zH λ(W:World) (gm b2 b4:Nat) (h:gQ W gm vM WT (ZG b2 b4))=>(HLO W gm b2 b4 h).trans (by rw[hn]);clear hn
   go_cut [7,8] (λs7 s8 wc=>∃g b1 b2 b3 b4 gm,s7= .pointer (some ⟨g,0,none⟩)/\s8= false/\wc.heap[g]?=Zc #[.nilFunc] 86/\lL wc b1 b2 b3 b4 gm/\Bw w3 wc)
   case first=>exact ayT
   obtain⟨g,b1,b2,b3,b4,gm,rfl,rfl,hg,lu,hb⟩:=hcut;clear q0 q1 q2 q3 q4 q5 q6 q7 q8 q9 aF aG;obtain⟨dX,HG,jy,y1⟩:=zK4 (zH lu) (zH hg) (zH (lX.seq hb)) (aO hg);obtain⟨q0,q1,q2,q3,q4,q5,q6,q7,q8,q9,aF,aG⟩:=aj (ae aQ jy);clear hg lu hb;have HX:Hid (R=2):=zH (by rw[ZX.out,(HNO rfl).2 _ true p HK.out,Bool.and_false,j6 rfl]);go_wp2_with fail;go_ret;exact⟨by rw[HX.out];rfl,ai.seq jy⟩
 | true=>
   obtain⟨f,cp,hcp,hcf,hfu⟩:=alV rfl;have apN:=zH λ(W:World) (gm b2 b4:Nat) (h:gQ W gm vM WT (ZG b2 b4))=>(HLO W gm b2 b4 h).trans (by rw[hcp]);obtain⟨HCF,HFU⟩:=zJ2 hcf hfu;clear hcp hcf hfu
   go_cut [7,8] (λs7 s8 wc=>∃g b1 b2 b3 b4 gm,s7= .pointer (some ⟨g,0,none⟩)/\s8= true/\wc.heap[g]?=some (.cells #[.func (.func f) #[] (cp b2 b4)] 86)/\lL wc b1 b2 b3 b4 gm/\Bw w3 wc)
   case first=>exact ayT
   obtain⟨g,b1,b2,b3,b4,gm,rfl,rfl,hg,lu,hb⟩:=hcut;clear q0 q1 q2 q3 q4 q5 q6 q7 q8 q9 aF aG;obtain⟨dX,HG,jy,y1⟩:=zK4 (zH lu) (zH hg) (zH (lX.seq hb)) (aO hg);obtain⟨q0,q1,q2,q3,q4,q5,q6,q7,q8,q9,aF,aG⟩:=aj (ae aQ jy);clear hg lu hb;obtain⟨nb,gX⟩:=zF (bU p.mn p.mx);obtain⟨fb,hfb⟩:=zF (bT (n9:Int) true p);have oG:Hid (Rt 51 #[.agg (o5 k mn mx el ck ns nl sp A1 n1 c1 A2 n2 c2 pr A n c)] wc nb):=zH (nM p _ wc _ (jG.below (ai.seq jy)) gX)
   have AL:Hid (∀W,Bw wc W->Rt f (#[.agg (o5 k mn mx el ck ns nl sp A1 n1 c1 A2 n2 c2 pr A n c),.int .i64 (n9:Int),.bool true]++cp b2 b4) W fb):=zH λW hW=>by
    rw[<-hfb];exact HFU (n9:Int) true p W HK (λx _=>QS (n9:Int) x) b1 b2 b3 b4 gm (dX.below hW) _ _ (jG.below (ai.seq (jy.seq hW)))
   have qK:Hid (R=if (nb&&fb)=false then 2 else if p.kind≠5/\200<dC p then 3 else 0):=zH (by rw[ZX.out,<-pR.out,gX,hfb]);have hcf:=HCF b2 b4;clear gX hfb HFU HLO;cases nb
   ·have HX:Hid (R=2):=zH (by rw[qK.out];rfl);go_wp2_with fail;refine oG.mono ?_;rintro e w6 ⟨rfl,dQ⟩;go_wp2_with fail;go_ret;exact⟨by rw[HX.out];rfl,ai.seq (jy.seq dQ)⟩
   go_wp2_with fail;refine oG.mono ?_;rintro e w6 ⟨rfl,dQ⟩;clear q0 q1 q2 q3 q4 q5 q6 q7 q8 q9 aF aG y1;have y1:=aO (ae HG dQ);obtain⟨q0,q1,q2,q3,q4,q5,q6,q7,q8,q9,aF,aG⟩:=aj (ae aQ (jy.seq dQ));go_wp2_with fail;refine (AL w6 dQ).mono ?_;rintro e w7 ⟨rfl,eP⟩;clear q0 q1 q2 q3 q4 q5 q6 q7 q8 q9 aF aG y1;obtain⟨q0,q1,q2,q3,q4,q5,q6,q7,q8,q9,aF,aG⟩:=aj (ae aQ ((jy.seq dQ).seq eP));have oQ:=zH ((jy.seq dQ).seq eP);cases fb
   ·have HX:Hid (R=2):=zH (by rw[qK.out];rfl);go_wp2_with fail;go_ret;exact⟨by rw[HX.out];rfl,ai.seq oQ⟩
   by_cases h5:k=5
   ·subst h5;have HX:Hid (R=0):=zH (by rw[qK.out,j5 zP,j5 (by rintro⟨h,_⟩;exact h HK)]);go_wp2_with fail;go_ret;exact⟨by rw[HX.out];rfl,ai.seq oQ⟩
   have PL:decide (k=5)=false:=(by simpa using h5);obtain⟨pv,oC⟩:=zF (dC p);have JS:Hid (Rt 52 #[.agg (o5 k mn mx el ck ns nl sp A1 n1 c1 A2 n2 c2 pr A n c)] w7 pv):=zH (FM p _ w7 _ (jG.below (ai.seq oQ)) oC)
   obtain⟨r,hr2,sZ⟩:∃b,(R=if b=true then 3 else 0)/\decide (200<pv)=b:=⟨_,by
    rw[qK.out,j5 zP,oC];by_cases lN:200<pv
    ·rw[j6 ⟨by rw[HK.out];exact h5,lN⟩,decide_eq_true lN];rfl
    rw[j5 (λh=>lN h.2),decide_eq_false lN];rfl,rfl⟩
   have HX:=zH hr2;clear oC hr2;cases r
   all_goals
    go_wp2_with fail;refine JS.mono ?_;rintro e w8 ⟨rfl,eX⟩;go_wp2_with fail;go_ret;exact⟨by rw[HX.out];rfl,ai.seq (oQ.seq eX)⟩
theorem Pz(w:World)(o o1 o2 o3:Obj):∃w1,(((w.alloc o).alloc o1).alloc o2).alloc o3=w1/\w1.heap[w.heap.size]?=some o/\w1.heap[w.heap.size+1]?=some o1/\w1.heap[w.heap.size+1+1]?=some o2/\w1.heap[w.heap.size+1+1+1]?=some o3/\w.heap.size+1+1+1<w1.heap.size/\Bw w w1:=by
 obtain⟨w1,bI,h1,h2,h3,hs,hb⟩:=rD w o o1 o2;have su:w1.heap.size=w.heap.size+1+1+1:=(by rw[<-bI];simp);rw[bI];refine⟨_,rfl,fK h1,fK h2,fK h3,?_,by simp;omega,hb.alloc zO _⟩;rw[<-su];exact heap_alloc_new _ _
def G8(av:List Nm):List (Nm×Bool):=av.foldl (λm x=>iK eqN x false m) []
theorem am2{av:List Nm}{x:Nm}(h:av[i]?=x):G8 (av.take (i+1))=iK eqN x false (G8 (av.take i)):=by
 obtain⟨h1,rfl⟩:=z4.1 h;unfold G8;rw[List.take_succ_eq_append_getElem h1,List.foldl_append];rfl
theorem abd(av:List Nm)(A:Option Addr)(n c:Nat)(l:List aT)(A':Option Addr)(n' c':Nat)(w:World)(F F':Nat->Prop)(ahE:aY w F 2 dK av A n)(bQ:jO w F' l A' n')(hn:n<2000000)(CO:n'<2000000):
 Cl 215 #[(A,n,c),(A',n',c')] w λe w'=>∃g1 g2,e= .returned (.agg #[.map (some g1),.map (some g2)])/\iI w' g1 g2 (kT l (G8 av,[]))/\g1≠g2/\w.heap.size<g1/\w.heap.size<g2/\Bw w w':=by
 have D6:=ahE.here Iu;have h1:=bQ.here;clear ahE bQ;obtain⟨w1,bI,S1,S2,S3,S4,lY,ai⟩:=Pz w (Zc #[.map none,.map none] 248) (.map #[] 0) (.map #[] 0) (Zc #[.map (some (w.heap.size+1)),.map (some (w.heap.size+1+1))] 248);have T1:iM w1 (w.heap.size+1) tq []:=S2;have T2:iM w1 (w.heap.size+1+1) lg []:=S3;obtain⟨a0,aQ,gW,fC,WU,L8⟩:=zK6 (dw S4) (zH S1) (zH T1) (zH T2) (zH S4) (@run_makeMap prog);clear S1 S2 S3 S4 T1 T2;go_enter func215,ntmps215;go_wp2_with fail;have HW:=zH bI;clear bI L8 a0
 go_loopw [16] (λsi wr=>∃i:Nat,i<=n/\si= i/\iM wr (w.heap.size+1) tq (G8 (av.take i))/\Kept (· =w+1) w1 wr)
  (λsi _=>n - (intOf si).toNat)
 case atStart=>exact⟨0,zO,rfl,gW,Kept.refl _ _⟩
 obtain⟨i,hi,rfl,BX,eF⟩:=hrel;have zi:=zH BX;have aH:Bw w wr:=ai.trans (eF.below zO (by intro k hk e;omega));have S4:=bF WU eF zO;have a0:=dw S4;have Bz:=eF.size;clear BX S4;by_cases aN:i<n
 ·obtain⟨b,off,a,s,HX,p0,p1,dO⟩:=(D6.below aH).name aN c;have hd:=zT1 (i<n);obtain⟨w5,pq,S5,VC,bg⟩:=af wr (Zc #[a,s] 23);obtain⟨r0,r1⟩:=dw S5;have VD:=zH (zi.below bg);have S4:=ae (bF WU eF zO) bg;have x0:=dw S4;have RF:=zH (am2 HX);clear S5 S4
  go_wp2_with (first
   | (at_mapUpdate;refine Xp rfl (.tmp 21) (.tmp 22) (.const false) 246 rfl (et:=4) ahk zK (w.heap.size+1) _ rfl VD (a,s) rfl false rfl ?_
      intro w6 h6a h6b h6c h6d)
   | fail)
  go_roundw
  case rel=>exact⟨i+1,zO,by go_num,by rw[RF.out];exact h6a,(eF.trans (Qh bg)).trans h6d⟩
  simp[intOf];omega
 have hd:=zT2 (i<n);have Xt:av.take i=av:=l8 (by have:=D6.len;omega);have HMQ:Hid (iM wr (w.heap.size+1) tq (G8 av)):=zH (by have h:=zi.out;rw[Xt] at h;exact h);obtain⟨wo,rfl⟩:∃wo:World,wo=wr:=⟨_,rfl⟩;obtain⟨w2,mJ,S2,oW,ag⟩:=af wo (Zc #[.func (.func 235) #[] #[(w.heap.size+1+1+1,0),(wo,0)]] 206);have G7:Hid (iI w2 (w.heap.size+1) (w.heap.size+1+1) (G8 av,[])):=zH ⟨HMQ.below ag,(fC.keep (eF.block _ zO zO)).below ag⟩;have vJ:Hid (EZ w2 (w.heap.size+1+1+1) wo (w.heap.size+1) (w.heap.size+1+1)):=zH ⟨ae (bF WU eF zO) ag,S2⟩;have aBG:=zH (ae (bF aQ eF zO) ag);have GH:Bw w w2:=aH.trans (ag.mono zO)
 have HX0:Hid (∀ch,ch∈l->∀(cs:List Value) (W:World) (B:Nat) (m:oI),dA W (· <B) ch cs->B<=w+1->B<=w+1+1->w.heap.size+1≠w+1+1->EZ W (w.heap.size+1+1+1) wo (w.heap.size+1) (w.heap.size+1+1)->iI W (w.heap.size+1) (w.heap.size+1+1) m->
  Cl 235 #[.agg cs.toArray,(w.heap.size+1+1+1,0),(wo,0)] W λe w'=>e= .returned (.tuple #[])/\iI w' (w.heap.size+1) (w.heap.size+1+1) (J9 ch m)/\Kept (λb=>b=w+1\/b=w+1+1) W w'):=
  zH λch _=>acT _ _ _ _ ch
 have hB1:w.heap.size<=w+1:=zO;have hB2:w.heap.size<=w+1+1:=zO;have dD:w.heap.size+1≠w+1+1:=zO;clear S2 Xt;go_wp2_with fail;have HW2:=zH mJ;clear mJ a0
 go_loopw [27] (λsi wr=>∃i:Nat,i<=n'/\si= i/\∃sy,Hid (kT l (G8 av,[])=kT (l.drop i) sy)/\iI wr (w.heap.size+1) (w.heap.size+1+1) sy/\Kept (λb=>b=(w.heap.size+1)\/b=(w.heap.size+1+1)) w2 wr)
  (λsi _=>n' - (intOf si).toNat)
 case atStart=>exact⟨0,zO,rfl,_,zH rfl,G7,Kept.refl _ _⟩
 obtain⟨i,hi,rfl,sy,HL,BX,eF⟩:=hrel;have aH:Bw w wr:=GH.trans (eF.below zO (by intro k hk e;omega));have Bv:=vJ.kept G7 eF;obtain⟨a2,Lm,zi,Bz⟩:=zK4 (aO Bv.2) (zH Bv) (zH BX) eF.size;clear Bv BX;by_cases aN:i<n'
 ·obtain⟨b,off,ch,v0,v1,v2,v3,v4,v5,HX,kP,p0,p1,p2,p3,p4,p5,dO⟩:=h1.LU aH aN c';have hd:=zT1 (i<n');obtain⟨k0,n0,l0,s0,A0,m0,d0,A1,m1,d1,rfl,rfl,rfl,rfl,rfl,rfl⟩:=kP.shape;obtain⟨w5,pq,S5,VC,bg⟩:=af wr (Zc #[k0,n0,l0,s0,(A0,m0,d0),(A1,m1,d1)] 26);have Jf:=kP.below (bg.mono zO);have RD:iI w5 (w.heap.size+1) (w.heap.size+1+1) sy:=⟨zi.1.below bg,zi.2.below bg⟩;have Dp:EZ w5 (w.heap.size+1+1+1) wo (w.heap.size+1) (w.heap.size+1+1):=⟨ae Lm.1 bg,ae Lm.2 bg⟩;have a5:=aO Dp.2;obtain⟨r0,r1,r2,r3,r4,r5⟩:=gG S5;obtain⟨acU,VD,acV⟩:=zJ3 Jf RD Dp;clear S5 Jf RD Dp kP;go_wp2_with fail;refine (HX0 ch (qN HX) _ _ w sy acU hB1 hB2 dD acV VD).mono ?_;rintro e w6 ⟨rfl,nJ,dm⟩;go_wp2_with fail;go_roundw
  case rel=>exact⟨i+1,zO,by go_num,_,zH (by rw[HL.out,Oc _ HX]),nJ,(eF.trans (Qh bg)).trans dm⟩
  simp[intOf];omega
 have hd:=zT2 (i<n');have zU:l.drop i=[]:=z14 (by have:=h1.len;omega);have HEX:Hid (kT l (G8 av,[])=sy):=zH (by rw[HL.out,zU,kT]);have apW:=Lm.out;clear zU;have S1:=bF aBG eF zO;have S4:=apW.1;have z0:=dw S1;have t0:=dw S4;have f0:=zF2 wr w.heap.size S1;obtain⟨wf,UJ⟩:=zF ((wr.setCell w (.map (some (w.heap.size+1)))).setCell (w,1) (.map (some (w.heap.size+1+1))));have Sf:wf.heap[w.heap.size]?=Zc #[.map (some (w.heap.size+1)),.map (some (w.heap.size+1+1))] 248:=(by rw[<-UJ];exact Fb (Fa S1));have WI:Bw w wf:=(by rw[<-UJ];exact(aH.setCell (p:=w) (zR _) _).setCell (p:=⟨w,1,none⟩) (zR _) _);have hMf:iI wf (w.heap.size+1) (w.heap.size+1+1) sy:=⟨zi.1.keep (by rw[<-UJ];exact(b7 _ _ _ _ (by simp<;>omega)).trans (b7 _ _ _ _ (by simp<;>omega))),zi.2.keep (by rw[<-UJ];exact(b7 _ _ _ _ (by simp<;>omega)).trans (b7 _ _ _ _ (by simp<;>omega)))⟩;obtain⟨g0,g1'⟩:=dw Sf;have HMf:=zH hMf;clear S1 S4 Sf hMf apW;go_wp2_with fail;(try simp only[Exit.inBlock,Exit.then]);refine Qg (v:=.agg #[.map (some (w.heap.size+1)),.map (some (w.heap.size+1+1))]) (by simp[results,results215,go_sem,g0,g1']) rfl ?_;exact⟨_,_,rfl,by rw[HEX.out];exact HMf,dD,zO,zO,WI⟩
theorem abe(av:List Nm)(A:Option Addr)(n c:Nat)(l:List aT)(A':Option Addr)(n' c':Nat)(w:World)(F F':Nat->Prop)(ahE:aY w F 2 dK av A n)(bQ:jO w F' l A' n')(hn:n<2000000)(CO:n'<2000000):
 Cl 215 #[(A,n,c),(A',n',c')] w λe w'=>∃g1 g2,e= .returned (.agg #[.map (some g1),.map (some g2)])/\iI w' g1 g2 (kT l (G8 av,[]))/\g1≠g2/\Bw w w':=by
 refine (abd av A n c l A' n' c' w F F' ahE bQ hn CO).mono ?_;rintro e w' ⟨g1,g2,h1,h2,h3,-,-,h4⟩;exact⟨g1,g2,h1,h2,h3,h4⟩
theorem call65(x y:Bool)(W:World):(callFunc 179 #[x,y]).run prog W= .ok (.enter 179 #[x,y]) W:=by kernel_rfl
theorem akD(x y:Bool)(w:World):Cl 179 #[x,y] w λe w'=>e= .returned (x)/\w'=w:=by
 go_enter func179,ntmps179;cases x<;>cases y<;>(go_wp2_with fail;go_ret;exact⟨rfl,rfl⟩)
def EJ:List aT->Int
 | []=>0
 | c::r=>if xO c=0 then EJ r else xO c
theorem akE{l:List aT}{c:aT}(h:l[i]?=c):EJ (l.drop i)=if xO c=0 then EJ (l.drop (i+1)) else xO c:=by
 obtain⟨h1,rfl⟩:=z4.1 h;rw[nZ h1,EJ]
theorem afi(l:List aT)(A:Option Addr)(n c:Nat)(w:World)(F:Nat->Prop)(bQ:jO w F l A n)(hn:n<2000000):
 Rt 214 #[(A,n,c)] w (EJ l):=by
 have h1:=bQ.here;clear bQ;go_enter func214,ntmps214;go_wp2_with fail
 go_loopw [8] (λsi wr=>∃i:Nat,i<=n/\si= i/\Hid (EJ l=EJ (l.drop i))/\Bw w wr)
  (λsi _=>n - (intOf si).toNat)
 case atStart=>exact⟨0,zO,rfl,zH rfl,j9 _ _⟩
 obtain⟨i,hi,rfl,HL,aH⟩:=hrel;by_cases aN:i<n
 ·obtain⟨b,off,ch,v0,v1,v2,v3,v4,v5,HX,kP,p0,p1,p2,p3,p4,p5,dO⟩:=h1.LU aH aN c;have hd:=zT1 (i<n);obtain⟨k0,n0,l0,s0,A0,m0,d0,A1,m1,d1,rfl,rfl,rfl,rfl,rfl,rfl⟩:=kP.shape;obtain⟨w5,pq,S5,VC,bg⟩:=af wr (Zc #[k0,n0,l0,s0,(A0,m0,d0),(A1,m1,d1)] 26);have aIk:=aH.size;have Jf:=kP.below (bg.mono zO);have r0:=gG S5;obtain⟨v,hv⟩:=zF (xO ch);have HD:=zH (akE HX);have HC:=zH (Fj ch _ w5 _ Jf hv);have HV:=zH hv;clear S5 Jf kP hv;go_wp2_with fail;refine HC.mono ?_;rintro e w6 ⟨rfl,dQ⟩;have atK:Bw w w6:=(aH.trans (bg.mono zO)).trans (dQ.mono zO);by_cases h0:v=0
  ·subst h0;go_wp2_with fail;go_roundw
   case rel=>exact⟨i+1,zO,by go_num,zH (by rw[HL.out,HD.out,HV.out];simp),atK⟩
   simp[intOf];omega
  have jV:decide (v=0)=false:=(by simp[h0]);go_wp2_with fail;go_ret;exact⟨by rw[HL.out,HD.out,HV.out];simp[h0],atK⟩
 have hd:=zT2 (i<n);have HE:Hid (EJ l=0):=zH (by rw[HL.out,List.drop_of_length_le (by have:=h1.1;omega)];rfl);go_wp2_with fail;go_ret;exact⟨by rw[HE.out];first | rfl | simp | (simp[Ending.returned]),aH⟩
