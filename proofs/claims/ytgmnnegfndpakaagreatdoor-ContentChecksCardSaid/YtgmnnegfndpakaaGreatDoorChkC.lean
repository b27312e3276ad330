import Derived.Test.YtgmnnegfndpakaaGreatDoorG17
set_option maxHeartbeats 20000000
set_option maxRecDepth 100000
namespace Go.Proofs.YtgmnnegfndpakaaGreatDoor
open Go.RowKit
theorem FM{v:Int}(p:aJ)(cs:List Value)(w:World)(F:Nat->Prop)(h:au w F (aZ p) cs)(hv:dC p=v):
 Rt 52 #[.agg cs.toArray] w (.int .i64 v):=by subst hv;exact ajs p cs w F h
theorem aa8{v:Bool}(l:List (List Nm))(A:Option Addr)(n c:Nat)(w:World)(F:Nat->Prop)(bQ:bM w F 1 (l.map nU) A n)(hn:n<6000000000000)(hv:l.any badL=v):
 Rt 46 #[.slice A n c,.func (.func 47) #[] #[]] w (.bool v):=by subst hv;exact aa3 l A n c w F bQ hn
theorem amF{d m:Nat}(p:aJ)(cs:List Value)(w:World)(F:Nat->Prop)(h:au w F (aZ p) cs)(hv:kJ 10 p=(d,m)):
 Rt 49 #[.agg cs.toArray,.int .i64 10] w (.tuple #[.int .i64 d,.int .i64 m]):=by
 have:=amw 10 p cs w F h zO;rw[hv] at this;exact this
theorem I8{elems:List (List Nm)}{p:aJ}(h:60<elems.length\/elems.any badL=true):kN elems p=2:=by unfold kN;rw[if_pos h]
theorem acp{elems:List (List Nm)}{p:aJ}(h1:¬60<elems.length)(h2:elems.any badL=false):kN elems p=if IG p=true then 3 else if (bU p.mn p.mx&&bT elems.length true p)=false then 2 else if p.kind≠5/\200<dC p then 3 else 0:=by
 unfold kN;rw[if_neg];rintro (h | h)
 ·exact h1 h
 ·rw[h2] at h;cases h
theorem BQ(elems:List (List Nm))(p:aJ)(cs:List Value)(A9:Option Addr)(n9 c9:Nat)(w:World)(F F9:Nat->Prop)(h:au w F (aZ p) cs)(hE:bM w F9 1 (elems.map nU) A9 n9)(GV:n9<6000000000000):
 Rt 13 #[.agg cs.toArray,.slice A9 n9 c9] w (.int .i64 (kN elems p)):=by
 have bH:=au.here _ _ (jK _) h;have lT:=bM.here hE (Nz _);have Xc:=zH lT;obtain⟨k,mn,mx,el,ck,ns,nl,sp,A1,n1,c1,A2,n2,c2,pr,A,n,c,rfl,hk,-⟩:=aW bH;obtain⟨w1,bI,S1,lY,ai⟩:=af w (.cells #[.int .i64 k,.int .i64 mn,.int .i64 mx,.int .i64 el,.int .i64 ck,.string ns,.string nl,.string sp,.slice A1 n1 c1,.slice A2 n2 c2,.int .i64 pr,.slice A n c] 29);have aQ:=zH S1;have jG:=zH bH;have HK:=zH hk;have pR:Hid (n9=elems.length):=zH (by have:=lT.1;rwa [z8] at this);obtain⟨R,hR⟩:=zF (kN elems p);rw[hR];have HR:=zH hR;obtain⟨q0,q1,q2,q3,q4,q5,q6,q7,q8,q9,aF,aG⟩:=aj S1;clear S1 h bH hk hE lT hR;by_cases xQ:60<n9
 ·have hd:decide ((60:Int)<(n9:Int))=true:=by simp;omega
  have HX:Hid (R=2):=zH (by rw[<-HR.out];exact I8 (.inl (by rw[<-pR.out];exact xQ)));clear xQ;go_enter Tryz.func13,Tryz.ntmps13;go_wp2_with fail;go_ret;exact⟨by rw[HX.out];rfl,ai⟩
 have hd:decide ((60:Int)<(n9:Int))=false:=by simp;omega
 obtain⟨av,D6⟩:=zF (elems.any badL);have HAV:=zH D6;have NT:Hid (Rt 46 #[.slice A9 n9 c9,.func (.func 47) #[] #[]] w1 (.bool av)):=zH (aa8 elems A9 n9 c9 w1 _ (Xc.out.below ai) GV D6);clear D6;cases av
 rotate_left 1
 ·have HX:Hid (R=2):=zH (by rw[<-HR.out];exact I8 (.inr HAV.out))
  go_enter Tryz.func13,Tryz.ntmps13;go_wp2_with fail;refine NT.out.mono ?_;rintro e w2 ⟨rfl,ag⟩;go_wp2_with fail;go_ret;exact⟨by rw[HX.out];rfl,ai.seq ag⟩
 have qG:Hid (R=if IG p=true then 3 else if (bU p.mn p.mx&&bT elems.length true p)=false then 2 else if p.kind≠5/\200<dC p then 3 else 0):=zH (by rw[<-HR.out];exact acp (by rw[<-pR.out];exact xQ) HAV.out);clear xQ;obtain⟨⟨d,m⟩,hdm⟩:∃v,kJ 10 p=v:=⟨_,rfl⟩;have hbN:=arq p;rw[hdm] at hbN;have HBN:=zH hbN;have QX:Hid (∀W,Bw w1 W->Rt 49 #[.agg (o5 k mn mx el ck ns nl sp A1 n1 c1 A2 n2 c2 pr A n c),.int .i64 10] W (.tuple #[.int .i64 d,.int .i64 m])):=zH λW hW=>amF p _ W _ (jG.out.below (ai.seq hW)) hdm;clear hbN hdm;by_cases AP:10<d
 ·have gJ:decide ((10:Int)<(d:Int))=true:=by simp;omega
  have HX:Hid (R=3):=zH (by rw[qG.out,if_pos];rw[<-HBN.out];simp[AP]);clear AP;go_enter Tryz.func13,Tryz.ntmps13;go_wp2_with fail;refine NT.out.mono ?_;rintro e w2 ⟨rfl,ag⟩;clear q0 q1 q2 q3 q4 q5 q6 q7 q8 q9 aF aG;obtain⟨q0,q1,q2,q3,q4,q5,q6,q7,q8,q9,aF,aG⟩:=aj (ae aQ.out ag);go_wp2_with fail;refine (QX.out w2 ag).mono ?_;rintro e w3 ⟨rfl,az⟩;go_wp2_with fail;go_ret;exact⟨by rw[HX.out];rfl,ai.seq (ag.seq az)⟩
 have gJ:decide ((10:Int)<(d:Int))=false:=by simp;omega
 by_cases Xd:40<m
 ·have jc:decide ((40:Int)<(m:Int))=true:=by simp;omega
  have HX:Hid (R=3):=zH (by rw[qG.out,if_pos];rw[<-HBN.out];simp[Xd]);clear AP Xd;go_enter Tryz.func13,Tryz.ntmps13;go_wp2_with fail;refine NT.out.mono ?_;rintro e w2 ⟨rfl,ag⟩;clear q0 q1 q2 q3 q4 q5 q6 q7 q8 q9 aF aG;obtain⟨q0,q1,q2,q3,q4,q5,q6,q7,q8,q9,aF,aG⟩:=aj (ae aQ.out ag);go_wp2_with fail;refine (QX.out w2 ag).mono ?_;rintro e w3 ⟨rfl,az⟩;go_wp2_with fail;go_ret;exact⟨by rw[HX.out];rfl,ai.seq (ag.seq az)⟩
 have jc:decide ((40:Int)<(m:Int))=false:=by simp;omega
 have ZX:Hid (R=if (bU p.mn p.mx&&bT elems.length true p)=false then 2 else if p.kind≠5/\200<dC p then 3 else 0):=zH (by rw[qG.out,if_neg];rw[<-HBN.out];simp[AP,Xd]);clear AP Xd;obtain⟨fv,is,o8,hno,alU⟩:=avY k;have HLO:=zH o8;have HNO:=zH hno;have alV:=zH alU;clear o8 hno alU;go_enter Tryz.func13,Tryz.ntmps13;go_wp2_with fail;refine NT.out.mono ?_;rintro e w2 ⟨rfl,ag⟩;clear q0 q1 q2 q3 q4 q5 q6 q7 q8 q9 aF aG;obtain⟨q0,q1,q2,q3,q4,q5,q6,q7,q8,q9,aF,aG⟩:=aj (ae aQ.out ag);go_wp2_with fail;refine (QX.out w2 ag).mono ?_;rintro e w3 ⟨rfl,az⟩;clear q0 q1 q2 q3 q4 q5 q6 q7 q8 q9 aF aG;have lX:=zH (ag.seq az);obtain⟨q0,q1,q2,q3,q4,q5,q6,q7,q8,q9,aF,aG⟩:=aj (ae aQ.out lX.out);go_upto_region 6 with fail
 cases is with
 | false=>
   have hn:=(HNO.out rfl).1;have apN:=zH λ(W:World) (gm b2 b4:Nat) (h:gQ W gm vM WT (ZG b2 b4))=>(HLO.out W gm b2 b4 h).trans (by rw[hn]);clear hn
   go_cut [7,8] (λs7 s8 wc=>∃g b1 b2 b3 b4 gm,s7= .pointer (some ⟨g,0,none⟩)/\s8= .bool false/\wc.heap[g]?=some (.cells #[.nilFunc] 86)/\lL wc b1 b2 b3 b4 gm/\Bw w3 wc)
   case first=>
    have d0:w3.drew.cell? ⟨w.heap.size,0,none⟩=some (.int .i64 k):=q0;obtain⟨wa,BK,Sa,nD,bJ⟩:=af w3.drew (.cells #[.nilFunc] 86);have da:wa.cell? ⟨w.heap.size,0,none⟩=some (.int .i64 k):=(aj (ae aQ.out (lX.out.seq (show Bw w3 wa from ⟨bJ.os,bJ.tape,bJ.output,bJ.size,bJ.block⟩)))).1;have Df:=zH Sa;clear Sa
    go_region_with
     (first | (go_at_call 50;refine (BN _).mono ?_
               rintro e w4 ⟨b1,b2,b3,b4,gm,rfl,lu,aX,jT⟩;have pg:=apN.out w4 gm b2 b4 lu.2.2.2.2;have o6:Bw w3 w4:=(by first | exact⟨aX.os,aX.tape,aX.output,aX.size,aX.block⟩ | exact(show Bw w3 wa from ⟨bJ.os,bJ.tape,bJ.output,bJ.size,bJ.block⟩).seq aX);obtain⟨w5,pq,S5,IY,bg⟩:=af w4 (.cells #[.nilFunc] 86);have acu:=apN.out w5 gm b2 b4 (lu.below bg).2.2.2.2;clear q0 q1 q2 q3 q4 q5 q6 q7 q8 q9 aF aG;obtain⟨q0,q1,q2,q3,q4,q5,q6,q7,q8,q9,aF,aG⟩:=aj (ae aQ.out (lX.out.seq o6));have r0:=aj (ae aQ.out ((lX.out.seq o6).seq bg));have c5:=aO S5;have f5:=frozen_of_row w5 w4.heap.size 0 _ _ S5;have dX:=zH lu;have rP:=zH o6;have vW:=zH S5;have lC:=zH jT
               try (have S6:=ae Df.out aX;have c6:w4.cell? ⟨w3.heap.size,0,none⟩=some .nilFunc:=aO S6;have f6:w4.frozen? ⟨w3.heap.size,0,none⟩=false:=frozen_of_row w4 _ 0 _ _ S6;have yX:=zH S6;clear S6)
               clear lu S5 jT))
    all_goals
     go_wp2_with fail;go_meet
     case rel=>
      have jT:=lC.out;have NU:=rP.out.size
      first
       | exact⟨w4.heap.size,b1,b2,b3,b4,gm,rfl,rfl,bD vW.out,dX.out.below (bg.setCell (zR _) _),(rP.out.seq bg).setCell (by show w3.heap.size<=w4.heap.size;omega) _⟩
       | exact⟨w3.heap.size,b1,b2,b3,b4,gm,rfl,rfl,bD yX.out,dX.out.set _ (by have:=nD;have:w3.heap.size<wa.heap.size:=this;omega) (by have:=nD;have:w3.heap.size<wa.heap.size:=this;omega) (by have:=nD;have:w3.heap.size<wa.heap.size:=this;omega) (by have:=nD;have:w3.heap.size<wa.heap.size:=this;omega) (by have:=nD;have:w3.heap.size<wa.heap.size:=this;omega),rP.out.setCell (zR _) _⟩
   case rest=>
    obtain⟨g,b1,b2,b3,b4,gm,rfl,rfl,hg,lu,hb⟩:=hcut;clear q0 q1 q2 q3 q4 q5 q6 q7 q8 q9 aF aG;have dX:=zH lu;have HG:=zH hg;have jy:=zH (lX.out.seq hb);have y1:=aO hg;obtain⟨q0,q1,q2,q3,q4,q5,q6,q7,q8,q9,aF,aG⟩:=aj (ae aQ.out jy.out);clear hg lu hb;have HX:Hid (R=2):=zH (by rw[ZX.out,(HNO.out rfl).2 _ true p HK.out,Bool.and_false,if_pos rfl]);go_wp2_with fail;go_ret;exact⟨by rw[HX.out];rfl,ai.seq jy.out⟩
 | true=>
   obtain⟨f,cp,hcp,hcf,hfu⟩:=alV.out rfl;have apN:=zH λ(W:World) (gm b2 b4:Nat) (h:gQ W gm vM WT (ZG b2 b4))=>(HLO.out W gm b2 b4 h).trans (by rw[hcp]);have HCF:=zH hcf;have HFU:=zH hfu;clear hcp hcf hfu
   go_cut [7,8] (λs7 s8 wc=>∃g b1 b2 b3 b4 gm,s7= .pointer (some ⟨g,0,none⟩)/\s8= .bool true/\wc.heap[g]?=some (.cells #[.func (.func f) #[] (cp b2 b4)] 86)/\lL wc b1 b2 b3 b4 gm/\Bw w3 wc)
   case first=>
    have d0:w3.drew.cell? ⟨w.heap.size,0,none⟩=some (.int .i64 k):=q0;obtain⟨wa,BK,Sa,nD,bJ⟩:=af w3.drew (.cells #[.nilFunc] 86);have da:wa.cell? ⟨w.heap.size,0,none⟩=some (.int .i64 k):=(aj (ae aQ.out (lX.out.seq (show Bw w3 wa from ⟨bJ.os,bJ.tape,bJ.output,bJ.size,bJ.block⟩)))).1;have Df:=zH Sa;clear Sa
    go_region_with
     (first | (go_at_call 50;refine (BN _).mono ?_
               rintro e w4 ⟨b1,b2,b3,b4,gm,rfl,lu,aX,jT⟩;have pg:=apN.out w4 gm b2 b4 lu.2.2.2.2;have o6:Bw w3 w4:=(by first | exact⟨aX.os,aX.tape,aX.output,aX.size,aX.block⟩ | exact(show Bw w3 wa from ⟨bJ.os,bJ.tape,bJ.output,bJ.size,bJ.block⟩).seq aX);obtain⟨w5,pq,S5,IY,bg⟩:=af w4 (.cells #[.nilFunc] 86);have acu:=apN.out w5 gm b2 b4 (lu.below bg).2.2.2.2;clear q0 q1 q2 q3 q4 q5 q6 q7 q8 q9 aF aG;obtain⟨q0,q1,q2,q3,q4,q5,q6,q7,q8,q9,aF,aG⟩:=aj (ae aQ.out (lX.out.seq o6));have r0:=aj (ae aQ.out ((lX.out.seq o6).seq bg));have c5:=aO S5;have f5:=frozen_of_row w5 w4.heap.size 0 _ _ S5;have dX:=zH lu;have rP:=zH o6;have vW:=zH S5;have lC:=zH jT
               try (have S6:=ae Df.out aX;have c6:w4.cell? ⟨w3.heap.size,0,none⟩=some .nilFunc:=aO S6;have f6:w4.frozen? ⟨w3.heap.size,0,none⟩=false:=frozen_of_row w4 _ 0 _ _ S6;have yX:=zH S6;clear S6)
               clear lu S5 jT))
    all_goals
     go_wp2_with fail;go_meet
     case rel=>
      have jT:=lC.out;have NU:=rP.out.size
      first
       | exact⟨w4.heap.size,b1,b2,b3,b4,gm,rfl,rfl,bD vW.out,dX.out.below (bg.setCell (zR _) _),(rP.out.seq bg).setCell (by show w3.heap.size<=w4.heap.size;omega) _⟩
       | exact⟨w3.heap.size,b1,b2,b3,b4,gm,rfl,rfl,bD yX.out,dX.out.set _ (by have:=nD;have:w3.heap.size<wa.heap.size:=this;omega) (by have:=nD;have:w3.heap.size<wa.heap.size:=this;omega) (by have:=nD;have:w3.heap.size<wa.heap.size:=this;omega) (by have:=nD;have:w3.heap.size<wa.heap.size:=this;omega) (by have:=nD;have:w3.heap.size<wa.heap.size:=this;omega),rP.out.setCell (zR _) _⟩
   case rest=>
    obtain⟨g,b1,b2,b3,b4,gm,rfl,rfl,hg,lu,hb⟩:=hcut;clear q0 q1 q2 q3 q4 q5 q6 q7 q8 q9 aF aG;have dX:=zH lu;have HG:=zH hg;have jy:=zH (lX.out.seq hb);have y1:=aO hg;obtain⟨q0,q1,q2,q3,q4,q5,q6,q7,q8,q9,aF,aG⟩:=aj (ae aQ.out jy.out);clear hg lu hb;obtain⟨nb,gX⟩:=zF (bU p.mn p.mx);obtain⟨fb,hfb⟩:=zF (bT (n9:Int) true p);have oG:Hid (Rt 51 #[.agg (o5 k mn mx el ck ns nl sp A1 n1 c1 A2 n2 c2 pr A n c)] wc (.bool nb)):=zH (nM p _ wc _ (jG.out.below (ai.seq jy.out)) gX)
    have AL:Hid (∀W,Bw wc W->Rt f (#[.agg (o5 k mn mx el ck ns nl sp A1 n1 c1 A2 n2 c2 pr A n c),.int .i64 (n9:Int),.bool true]++cp b2 b4) W (.bool fb)):=zH λW hW=>by
     rw[<-hfb];exact HFU.out (n9:Int) true p W HK.out (λx _=>QS (n9:Int) x) b1 b2 b3 b4 gm (dX.out.below hW) _ _ (jG.out.below (ai.seq (jy.out.seq hW)))
    have qK:Hid (R=if (nb&&fb)=false then 2 else if p.kind≠5/\200<dC p then 3 else 0):=zH (by rw[ZX.out,<-pR.out,gX,hfb]);have hcf:=HCF.out b2 b4;clear gX hfb HFU HLO;cases nb
    ·have HX:Hid (R=2):=zH (by rw[qK.out];rfl)
     go_wp2_with fail;refine oG.out.mono ?_;rintro e w6 ⟨rfl,dQ⟩;go_wp2_with fail;go_ret;exact⟨by rw[HX.out];rfl,ai.seq (jy.out.seq dQ)⟩
    go_wp2_with fail;refine oG.out.mono ?_;rintro e w6 ⟨rfl,dQ⟩;clear q0 q1 q2 q3 q4 q5 q6 q7 q8 q9 aF aG y1;have y1:=aO (ae HG.out dQ);obtain⟨q0,q1,q2,q3,q4,q5,q6,q7,q8,q9,aF,aG⟩:=aj (ae aQ.out (jy.out.seq dQ));go_wp2_with fail;refine (AL.out w6 dQ).mono ?_;rintro e w7 ⟨rfl,eP⟩;clear q0 q1 q2 q3 q4 q5 q6 q7 q8 q9 aF aG y1;obtain⟨q0,q1,q2,q3,q4,q5,q6,q7,q8,q9,aF,aG⟩:=aj (ae aQ.out ((jy.out.seq dQ).seq eP));have oQ:=zH ((jy.out.seq dQ).seq eP);cases fb
    ·have HX:Hid (R=2):=zH (by rw[qK.out];rfl)
     go_wp2_with fail;go_ret;exact⟨by rw[HX.out];rfl,ai.seq oQ.out⟩
    by_cases h5:k=5
    ·subst h5
     have HX:Hid (R=0):=zH (by rw[qK.out,if_neg zP,if_neg (by rintro⟨h,_⟩;exact h HK.out)]);go_wp2_with fail;go_ret;exact⟨by rw[HX.out];rfl,ai.seq oQ.out⟩
    have PL:decide (k=5)=false:=(by simpa using h5);obtain⟨pv,oC⟩:=zF (dC p);have JS:Hid (Rt 52 #[.agg (o5 k mn mx el ck ns nl sp A1 n1 c1 A2 n2 c2 pr A n c)] w7 (.int .i64 pv)):=zH (FM p _ w7 _ (jG.out.below (ai.seq oQ.out)) oC)
    obtain⟨r,hr2,sZ⟩:∃b,(R=if b=true then 3 else 0)/\decide (200<pv)=b:=⟨_,by
     rw[qK.out,if_neg zP,oC];by_cases lN:200<pv
     ·rw[if_pos ⟨by rw[HK.out];exact h5,lN⟩,decide_eq_true lN];rfl
     ·rw[if_neg (λh=>lN h.2),decide_eq_false lN];rfl,rfl⟩
    have HX:=zH hr2;clear oC hr2;cases r
    all_goals
     go_wp2_with fail;refine JS.out.mono ?_;rintro e w8 ⟨rfl,eX⟩;go_wp2_with fail;go_ret;exact⟨by rw[HX.out];rfl,ai.seq (oQ.out.seq eX)⟩
end Go.Proofs.YtgmnnegfndpakaaGreatDoor
