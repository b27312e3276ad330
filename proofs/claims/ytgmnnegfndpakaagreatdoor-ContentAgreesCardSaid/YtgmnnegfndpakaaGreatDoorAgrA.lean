import Derived.Test.YtgmnnegfndpakaaGreatDoorAwkA
import Derived.Test.YtgmnnegfndpakaaGreatDoorJ03
import Derived.Test.YtgmnnegfndpakaaGreatDoorJ02
import Derived.Test.YtgmnnegfndpakaaGreatDoorJ01
set_option maxHeartbeats 20000000
set_option maxRecDepth 100000
namespace Go.Proofs.YtgmnnegfndpakaaGreatDoor
open Go.RowKit
theorem Yi.keep{w w':World}{base:Nat}{a:Aut}{v1 v2 v3 v4:Value}(h:Yi w base a v1 v2 v3 v4)(hb:Bw w w'):Yi w' base a v1 v2 v3 v4:=by
 obtain⟨nA,nn,nc,sA,sn,sc,hs,h1,h2,h3,h4,h5,h6,h7,h8,h9⟩:=h;exact⟨nA,nn,nc,sA,sn,sc,hs,h1,h2,h3.keepW hb,h4.keepW hb,h5,h6,h7.keep hb,h8.keep hb,h9.keep λ_ hx q hq=>hb.block q (h9.lt hx hq).2.1⟩
theorem aAF{elems:List (List Nm)}{top:Bool}{x:aJ}(h:bT (elems.length:Int) top x=true):xE elems x:=λe=>by
 rw[abm e] at h;simp only[z7,z18] at h;exact⟨h.1.1.1.1,h.1.1.1.2⟩
theorem aFt(p:aJ)(cs:List Value)(w:World)(F:Nat->Prop)(h:au w F (aZ p) cs):Cl 15 #[.agg cs.toArray] w λe w'=>ayD e/\Bw w w':=by
 have bH:=au.here _ _ (jK _) h;obtain⟨k,mn,mx,el,ck,ns,nl,sp,A1,n1,c1,A2,n2,c2,pr,A0,n0,c0,rfl,-⟩:=aW bH;obtain⟨w1,bI,S1,nC,ai⟩:=af w (.cells #[.int .i64 k,.int .i64 mn,.int .i64 mx,.int .i64 el,.int .i64 ck,.string ns,.string nl,.string sp,.slice A1 n1 c1,.slice A2 n2 c2,.int .i64 pr,.slice A0 n0 c0] 29);have q0:=aj S1;obtain⟨pv,oC⟩:=zF (dC p);have aLT:Hid (∀W,Bw w W->Rt 16 #[.agg (o5 k mn mx el ck ns nl sp A1 n1 c1 A2 n2 c2 pr A0 n0 c0)] W (.int .i64 pv)):=zH λW hb=>(by rw[<-oC];exact aa4 p _ W _ (bH.below hb));have aQ:=zH S1;clear h bH S1 oC;obtain⟨b0,jV⟩:=zF (decide (k=5));obtain⟨b1,gJ⟩:=zF (decide ((4:Int)<(n0:Int)));obtain⟨b2,jc⟩:=zF (decide ((n0:Int)<=6));obtain⟨b3,sZ⟩:=zF (decide ((40:Int)<pv));obtain⟨b4,Ef⟩:=zF (decide (pv<=200));have aTx:(k==5)=b0:=(by rw[<-jV];rfl);go_enter Tryz.func15,Tryz.ntmps15;cases b0<;>cases b1<;>cases b2
 all_goals
  go_wp2_with fail
  first
   | (go_ret
      exact⟨⟨_,rfl⟩,ai⟩)
   | (refine (aLT.out _ ai).mono ?_
      rintro e w2 ⟨rfl,ag⟩;cases b3
      ·go_wp2_with fail;go_ret;exact⟨⟨_,rfl⟩,ai.seq ag⟩
      clear q0;have q0:=aj (ae aQ.out ag);go_wp2_with fail;refine (aLT.out _ (ai.seq ag)).mono ?_;rintro e w3 ⟨rfl,az⟩;go_wp2_with fail;go_ret
      exact⟨⟨_,rfl⟩,ai.seq (ag.seq az)⟩)
theorem aFu(p:aJ)(elems:List (List Nm))(wd:List Nm)(cs:List Value)(w:World)(eA:Option Addr)(en ec:Nat)(alH:Option Addr)(un uc:Nat)(hr:au w (· <w.heap.size) (aZ p) cs)(he:bM w (· <w.heap.size) 1 (elems.map nU) eA en)(jR:en<6000000000000)
 (hu:aY w (· <w.heap.size) 2 dK wd alH un) (JL:un<6000000000000) (huc:un<=uc) (hT:Tab w):
 Rt 7 #[.agg cs.toArray,.slice eA en ec,.slice alH un uc] w (.bool true):=by
 obtain⟨k,mn,mx,el,ck,ns,nl,sp,A1,n1,c1,A2,n2,c2,pr,A0,n0,c0,rfl,-⟩:=aW hr;obtain⟨w1,bI,S1,nC,ai⟩:=af w (.cells #[.int .i64 k,.int .i64 mn,.int .i64 mx,.int .i64 el,.int .i64 ck,.string ns,.string nl,.string sp,.slice A1 n1 c1,.slice A2 n2 c2,.int .i64 pr,.slice A0 n0 c0] 29);obtain⟨q0,q1,q2,q3,q4,q5,q6,q7,q8,q9,aF,aG⟩:=aj S1;have hlen:un=wd.length:=hu.1;obtain⟨E,hE⟩:=zF ((DJ p elems).2);obtain⟨aut,apu⟩:=zF ((DJ p elems).1);obtain⟨aN5,hvw⟩:=zF ((!wd.any oZ));have aNZ:Hid (∀W,Bw w W->Cl 11 #[.agg (o5 k mn mx el ck ns nl sp A1 n1 c1 A2 n2 c2 pr A0 n0 c0),.slice eA en ec] W λe w'=>ayD e/\Bw W w'):=zH λW hb=>ajb p elems _ W _ eA en ec (hr.below hb) (he.keepW hb) jR;have aP0:Hid (∀W,Bw w W->Cl 15 #[.agg (o5 k mn mx el ck ns nl sp A1 n1 c1 A2 n2 c2 pr A0 n0 c0)] W λe w'=>ayD e/\Bw W w'):=zH λW hb=>aFt p _ W _ (hr.below hb);have aN0:Hid (∀W,Bw w W->Rt 20 #[.slice alH un uc] W (.bool aN5)):=zH λW hb=>(by rw[<-hvw];exact amv wd alH un uc W _ (hu.keepW hb) JL);have axE:Hid (∀W,Bw w W->Rt 12 #[] W (.bool true)):=zH λW hb=>ame W (hT.below hb);have aP1:Hid (∀W,Bw w W->Cl 25 #[.agg (o5 k mn mx el ck ns nl sp A1 n1 c1 A2 n2 c2 pr A0 n0 c0),.slice eA en ec] W λe w'=>∃v1 v2 v3 v4,e= .returned (.tuple #[.agg #[v1,v2,v3,v4],.int .i64 E])/\Yi w' W.heap.size aut v1 v2 v3 v4/\Bw W w'):=zH λW hb=>(by rw[<-hE,<-apu];exact aoh p elems _ W eA en ec (hr.keepW hb) (he.keepW hb) jR (hT.below hb));have jG:=zH hr;have HE:=zH he;have HU:=zH hu;have HT:=zH hT;have aQ:=zH S1;have nK:=zH ai;have HEE:=zH hE;have aLU:=zH apu;have HVW:=zH hvw;have pR:=zH hlen;clear hr he hu hT S1 ai hE apu hvw hlen;go_enter Tryz.func7,Tryz.ntmps7;go_upto_region 1 with fail
 go_cut [37] (λs37 W=>∃g:Bool,s37= .bool g/\Hid (g=false->un<=12/\aN5=true)/\Bw w1 W)
 case first=>
  go_wp2_with fail;refine (aNZ.out _ nK.out).mono ?_;rintro e w2 ⟨⟨b,rfl⟩,ag⟩;cases b
  rotate_left 1
  ·go_wp2_with fail;go_meet;exact⟨true,rfl,zH (λh=>by cases h),ag⟩
  clear q0 q1 q2 q3 q4 q5 q6 q7 q8 q9 aF aG;obtain⟨q0,q1,q2,q3,q4,q5,q6,q7,q8,q9,aF,aG⟩:=aj (ae aQ.out ag);go_wp2_with fail;refine (aP0.out _ (nK.out.seq ag)).mono ?_;rintro e w3 ⟨⟨b,rfl⟩,az⟩;have Ep:=ag.seq az;cases b
  rotate_left 1
  ·go_wp2_with fail;go_meet;exact⟨true,rfl,zH (λh=>by cases h),Ep⟩
  by_cases h5:12<un
  ·have hd:decide ((12:Int)<(un:Int))=true:=(by simp;omega);go_wp2_with fail;go_meet;exact⟨true,rfl,zH (λh=>by cases h),Ep⟩
  have hd:decide ((12:Int)<(un:Int))=false:=(by simp;omega);go_wp2_with fail;refine (aN0.out _ (nK.out.seq Ep)).mono ?_;rintro e w4 ⟨rfl,aX⟩;cases aN5
  ·go_wp2_with fail;go_meet;exact⟨true,rfl,zH (λh=>by cases h),Ep.seq aX⟩
  go_wp2_with fail;go_meet;exact⟨false,rfl,zH (λ_=>⟨zO,(by first | rfl | trivial)⟩),Ep.seq aX⟩
 obtain⟨wb,hwb⟩:=zE wc;subst hwb;obtain⟨g,rfl,HG,CZ⟩:=hcut;have aH:=nK.out.seq CZ;clear q0 q1 q2 q3 q4 q5 q6 q7 q8 q9 aF aG;obtain⟨q0,q1,q2,q3,q4,q5,q6,q7,q8,q9,aF,aG⟩:=aj (ae aQ.out CZ);cases g
 rotate_left 1
 ·go_wp2_with fail;refine (axE.out _ aH).mono ?_;rintro e w3 ⟨rfl,az⟩;go_wp2_with fail;go_ret;exact⟨rfl,aH.seq az⟩
 obtain⟨aTl,hv⟩:=HG.out rfl;have hvb:wd.any oZ=false:=(by have:=HVW.out;rw[hv] at this;simpa using this);have HVB:=zH hvb;have jy:=zH CZ;have nG:=zH aH;clear hv hvb CZ aH
 as_aux_lemma=>
  go_wp2_with fail;refine (aP1.out _ nG.out).mono ?_;rintro e w2 ⟨v1,v2,v3,v4,rfl,apu,ag⟩
  obtain⟨⟨nA,nn,nc,h1⟩,⟨sA,sn,sc,h2⟩,⟨fA,fn,fc,h3,IU⟩,tA,tn,tc,h4,htn⟩:(∃A n c,v1= .slice A n c)/\(∃A n c,v2= .slice A n c)/\(∃A n c,v3= .slice A n c/\n=aut.final.length)/\∃A n c,v4= .slice A n c/\n=aut.steps.length:=by
   obtain⟨_,_,_,_,_,_,hs,e1,e2,-,-,-,-,h7,h8,h9⟩:=apu;obtain⟨A,c,e⟩:=h7.form;obtain⟨A',c',e'⟩:=h8.form;exact⟨⟨_,_,_,e1⟩,⟨_,_,_,e2⟩,⟨A,_,c,e,rfl⟩,A',_,c',e',h9.len⟩
  subst h1 h2 h3 h4;obtain⟨w3,vU,S3,su,az⟩:=af w2 (.cells #[.slice nA nn nc,.slice sA sn sc,.slice fA fn fc,.slice tA tn tc] 51);have vC:=zH S3;have HA3:=zH (apu.keep az);obtain⟨kc0,kc1,kc2,kc3⟩:=blk4 S3;have lX:=zH (nG.out.seq (ag.seq az));have aP2:=zH (jy.out.seq (ag.seq az));clear S3 apu ag;have HFN:=zH IU;have HTN:=zH htn;by_cases h0:E=0
  rotate_left 1
  ·have jV:(E !=0)=true:=(by simpa using h0);have gJ:decide (E=0)=false:=(by simpa using h0);have aQd:(E==0)=false:=(by simpa using h0);have aP3:fn=0:=(by rw[IU,<-aLU.out,aPb (by rw[HEE.out];exact h0)];rfl);subst aP3;have jc:decide (((0:Nat):Int)=0)=true:=(by simp);have aPa:(((0:Nat):Int)==0)=true:=(by simp);clear IU htn;go_wp2_with fail;refine (axE.out _ lX.out).mono ?_;rintro e w4 ⟨rfl,aX⟩;go_wp2_with fail;go_ret;exact⟨rfl,lX.out.seq aX⟩
  subst h0;have kV:(DJ p elems).2=0:=HEE.out;have aA6:=(aza kV).1;have bZ:=aPc kV wd;rw[aLU.out] at bZ;obtain⟨Zz,hf0⟩:=aPe bZ;have hf1:0<fn:=(by rw[IU];exact(z4.1 hf0).1);have htf:tn=fn:=(by rw[htn,IU];exact Zz);subst htf;have jc:decide ((tn:Int)=0)=false:=(by simp;omega);have aPa:((tn:Int)==0)=false:=(by simp;omega);have sZ:((tn:Int) !=(tn:Int))=false:=(by simp);have azq:=zH aA6;have sV:=zH bZ;obtain⟨-,-,-,lQ,aKy,-⟩:=J5 aA6;have aP4:=zH aKy;have Dc:dh p<100000:=(by have:=af6 (J5 aA6).2.2.1;omega);have HNP:=zH Dc;have hlf:∀x∈aaj p 0,xE elems x.2:=λx hx=>aAF (afK _ p true 0 aKy x hx).1.2.2;have HLF:=zH hlf;clear IU htn kV aA6 bZ Zz hf0 lQ aKy Dc hlf;go_wp2_with fail;clear q0 q1 q2 q3 q4 q5 q6 q7 q8 q9 aF aG kc0 kc1 kc2 kc3
  go_loopw [9,10] (λs9 s10 W=>∃(st j:Nat),s9= .int .i64 st/\s10= .int .i64 j/\j<=un/\Hid (ajS p elems aut wd j st)/\Bw w3 W) (λ_ s10 _=>un - (intOf s10).toNat)
  case atStart=>exact⟨0,0,rfl,rfl,zO,sV,Below.refl _ _⟩
  obtain⟨st,j,rfl,rfl,hj,HI,dU⟩:=hrel;have aH:Bw w wr:=lX.out.seq dU;have CZ:Bw w1 wr:=aP2.out.seq dU;obtain⟨q0,q1,q2,q3,q4,q5,q6,q7,q8,q9,aF,aG⟩:=aj (ae aQ.out CZ);have HBR:=zH dU;obtain⟨S,hS⟩:=zF (acW (eU elems p) wd j);obtain⟨fb,hfb⟩:=zF (qA (eU elems p) (acW (eU elems p) wd j));obtain⟨lv,vX⟩:=zF (EX (acW (eU elems p) wd j) (aao (eU elems p)));have hmt:=aPd azq.out HI.out (by rw[<-pR.out];exact hj) (by rw[<-pR.out];omega) HVB.out;have xw:=aGj azq.out (k:=j) (w:=wd) (by rw[<-pR.out];omega) HVB.out;rw[hfb] at hmt;rw[hfb,vX] at xw
  have hjl:lv=false->j=0:=λh=>by
   rcases Nat.eq_zero_or_pos j with h0 | h0
   ·exact h0
   rw[aGk HI.out h0] at vX;rw[<-vX] at h;cases h
  obtain⟨Zz,hfs⟩:=aPe HI.out;rw[hfb] at hfs;have hi1:(0:Int)<=(j:Int):=(by omega);have hi2:(j:Int)<=(uc:Int):=(by omega);have hi3:(j:Int)<=(un:Int):=(by omega);obtain⟨aLX,hNL⟩:=zF ((TG p elems (wd.take j)).1);obtain⟨ne,dD⟩:=zF ((TG p elems (wd.take j)).2.1);obtain⟨aP7,hng⟩:=zF ((TG p elems (wd.take j)).2.2)
  have aN3:Hid (∀W,Bw w W->Rt 23 #[.agg (o5 k mn mx el ck ns nl sp A1 n1 c1 A2 n2 c2 pr A0 n0 c0),.slice eA en ec,.slice alH j uc] W (.tuple #[.bool fb,.int .i64 j,.int .i64 0])):=zH λW hb=>by
   have:=Sz p elems (wd.take j) _ W eA en ec alH j uc (jG.out.keepW hb) (HE.out.keepW hb) jR ((HU.out.keepW hb).hi hj) zO (HT.out.below hb);rw[hmt] at this;exact this
  have aP5:Hid (∀W,Bw w W->Cl 30 #[.agg (o5 k mn mx el ck ns nl sp A1 n1 c1 A2 n2 c2 pr A0 n0 c0),.slice eA en ec,.slice alH j uc] W λe w'=>∃v,e= .returned (.tuple #[v,.bool ne,.int .i64 aP7])/\ax w' W.heap.size 3 1 aV aLX v/\Bw W w'):=zH λW hb=>by
   have:=next_any p elems (wd.take j) _ W eA en ec alH j uc (jG.out.keepW hb) (HE.out.keepW hb) jR ((HU.out.keepW hb).hi hj) zO (HT.out.below hb);rw[hNL,dD,hng] at this;exact this
  have Ky:=zH xw;have Du:=zH hNL;have HNE:=zH dD;have HNG:=zH hng;have Ee:=zH vX;have HJL:=zH hjl;have HFS:=zH hfs;clear hmt xw hNL dD hng vX hjl hfs hfb hS Zz dU
  as_aux_lemma=>
   have s0:=Since.cell q0;have s1:=Since.cell q1;have s2:=Since.cell q2;have s3:=Since.cell q3;have s4:=Since.cell q4;have s5:=Since.cell q5;have s6:=Since.cell q6;have s7:=Since.cell q7;have s8:=Since.cell q8;have s9:=Since.cell q9;have s10:=Since.cell aF;have UQ:=Since.cell aG;go_wp2_with fail;refine yh zK zK ?_
   repeat (go_big_quiet_step (first | (go_at_call 23;exact Eo (aN3.out _ (aH.seq (Since.below _))))))
   refine wpQuiet_nil ?_;intro KI hq;have Xo:=Ap hq;have av6:Bw wr KI:=Xo;clear Xo hq q0 q1 q2 q3 q4 q5 q6 q7 q8 q9 aF aG s0 s1 s2 s3 s4 s5 s6 s7 s8 s9 s10 UQ;obtain⟨q0,q1,q2,q3,q4,q5,q6,q7,q8,q9,aF,aG⟩:=aj (ae aQ.out (CZ.seq av6));obtain⟨b11,aLZ⟩:=zF KI;clear aLZ b11;go_wp2_with fail;have HCD:Hid (∀V,Bw w1 V->(V.cell? ⟨w.heap.size,0,none⟩=some (.int .i64 k)/\V.cell? ⟨w.heap.size,1,none⟩=some (.int .i64 mn)/\V.cell? ⟨w.heap.size,2,none⟩=some (.int .i64 mx)/\V.cell? ⟨w.heap.size,3,none⟩=some (.int .i64 el)/\V.cell? ⟨w.heap.size,4,none⟩=some (.int .i64 ck)/\V.cell? ⟨w.heap.size,5,none⟩=some (.string ns)/\V.cell? ⟨w.heap.size,6,none⟩=some (.string nl)/\V.cell? ⟨w.heap.size,7,none⟩=some (.string sp)/\V.cell? ⟨w.heap.size,8,none⟩=some (.slice A1 n1 c1)/\V.cell? ⟨w.heap.size,9,none⟩=some (.slice A2 n2 c2)/\V.cell? ⟨w.heap.size,10,none⟩=some (.int .i64 pr)/\V.cell? ⟨w.heap.size,11,none⟩=some (.slice A0 n0 c0))):=zH λV hV=>aj (ae aQ.out hV);have aGO:Bw w1 KI:=CZ.seq av6;have hHeld:=HCD.out KI.drew aGO.drew;refine ah.stN HCD 5 ?_;refine ah.tk 0 hHeld ?_;refine ah.tk 1 hHeld ?_;refine ah.ta 2 hHeld ?_;refine ah.ta 3 hHeld ?_;refine ah.tk 4 hHeld ?_;refine ah.on 5 λK hK=>?_;go_simp;refine (aP5.out _ (aH.seq av6).drew).mono ?_;rintro e KJ ⟨v5,rfl,RZ,Gm⟩;have ama:=HCD.out KJ (aGO.drew.seq Gm);refine di hK (λ_=>ama) ?_;clear hK K;refine ah.ta 6 ama ?_;refine ah.ta 7 ama ?_;refine ah.ta 8 ama ?_;refine ah.ta 9 ama ?_;refine ah.acF 10 (λ_=>ama) ?_;refine ah.acF 11 (λ_=>ama) ?_;refine ah.oe 12 ?_;refine ah.dn ?_;have apr:Bw w KJ:=(aH.seq av6).drew.seq Gm;have azr:Bw w3 KJ:=(HBR.out.seq av6).drew.seq Gm;obtain⟨lA,lc,rfl⟩:=RZ.form;have HO5:=zH RZ;have aTi:=zH azr;have aL9:=zH (aGO.drew.seq Gm);obtain⟨kc0,kc1,kc2,kc3⟩:=blk4 (ae vC.out azr);have HAW:=zH (HA3.out.keep azr);obtain⟨nA',nn',nc',sA',sn',sc',hs,e1,e2,hrN,hrS,JC,Di,hoF,hoH,aI⟩:=HAW.out;obtain⟨rfl,rfl,rfl⟩:=z19 e1;obtain⟨rfl,rfl,rfl⟩:=z19 e2;obtain⟨A',c',aTh,hrF,-,-⟩:=hoF.row (λ_=>rfl) zD;obtain⟨rfl,-,rfl⟩:=z19 aTh;have aLW:st<aut.final.length:=(z4.1 HFS.out).1;obtain⟨fbl,fo,fx,HFX,f0,fix⟩:=hrF.bool aLW fc;obtain rfl:fb=fx:=zI (HFS.out.symm.trans HFX.out);have aTm:(fb !=fb)=false:=(by cases fb<;>rfl);have hjj:((j:Int) !=(j:Int))=false:=(by simp);obtain⟨kb,yw⟩:=zF (decide ((j:Int)=0));have aUj:((j:Int)==0)=kb:=(by rw[<-yw];rfl);have HRN:=zH hrN;have HRS:=zH hrS;have HOH:=zH hoH;have lM:=zH aI;have hFN:=HFN.out;rw[<-hFN] at fix aLW;clear hFN RZ hoF hoH aI hrF aTh hrN hrS hHeld Gm;go_upto_region 13 with fail
   go_cut [17] (λs17 W=>∃b,s17= .bool b/\Hid (b=!lv)/\KJ=W)
   case first=>
    cases azs:lv with
    | true=>
      have e1:aP7=0:=(by rw[<-HNG.out,Ky.out,azs,if_pos rfl]);subst e1;cases kb
      ·go_wp2_with fail;go_meet;exact⟨_,rfl,zH (by rw[azs];rfl),rfl⟩
      go_wp2_with fail;go_meet;exact⟨_,rfl,zH (by rw[azs];rfl),rfl⟩
    | false=>
      have e1:aP7=4:=(by rw[<-HNG.out,Ky.out,azs,if_neg zP]);have e2:j=0:=HJL.out azs;subst e1;obtain rfl:true=kb:=(by rw[<-yw];simp;omega);go_wp2_with fail;go_meet;exact⟨_,rfl,zH (by rw[azs];rfl),rfl⟩
   case rest=>
   obtain⟨nlv,rfl,aQ0,rfl⟩:=hcut;go_upto_region 14 with fail
   go_cut [123] (λaP6 W=>aP6= .bool false/\KJ=W)
   case first=>
    cases nlv with
    | false=>
      have azs:lv=true:=by have:=aQ0.out;cases lv<;>first | rfl | cases this
      have e1:aP7=0:=(by rw[<-HNG.out,Ky.out,azs,if_pos rfl]);have e2:ne=fb:=(by rw[<-HNE.out,Ky.out,azs,if_pos rfl]);subst e1 e2;go_wp2_with fail;go_meet;exact⟨rfl,rfl⟩
    | true=>
      go_wp2_with fail;go_meet;exact⟨rfl,rfl⟩
   obtain⟨rfl,rfl⟩:=hcut;clear yw aUj
   as_aux_lemma=>
    by_cases aN:j<un
    rotate_left 1
    ·obtain rfl:j=un:=(by omega);have Ef:decide ((j:Int)=(j:Int))=true:=(by simp);have aQf:((j:Int)==(j:Int))=true:=(by simp);go_wp2_with fail;refine (axE.out _ apr).mono ?_;rintro e wB ⟨rfl,jX⟩;go_wp2_with fail;go_ret;exact⟨rfl,apr.seq jX⟩
    have Ef:decide ((j:Int)=(un:Int))=false:=(by simp;omega);have aQf:((j:Int)==(un:Int))=false:=(by simp;omega);obtain⟨ub,aU4,a,b,HN,y0,y1,hux⟩:=aY.name (HU.out.keepW apr) aN uc
    have hvn:oZ (a,b)=false:=by
     have:=HVB.out;rw[List.any_eq_false] at this;simpa using this _ (z13 HN.out)
    obtain⟨x,r,v,hle,hrs,hxr,eG,aiq⟩:=aPf azq.out HI.out HN.out hvn;obtain⟨mb,hmb⟩:=zF (EX (acW (eU elems p) wd (j+1)) (aao (eU elems p)));have azt:=aSy azq.out HI.out HN.out (by rw[<-pR.out];omega) HVB.out;rw[Du.out,hmb] at azt;rw[hmb] at aiq
    have aGP:aaU (∃i∈aLX,∃q,(i,q)∈aaj p 0/\Gf elems q (a,b)=true)=mb:=by
     cases mb with
     | true=>exact acE (azt.2 rfl)
     | false=>exact aeT λh=>by have:=azt.1 h;cases this
    have HLT:Hid (∀W,Bw KJ W->Rt 28 #[.agg #[.slice nA nn nc,.slice sA sn sc,.slice fA tn fc,.slice tA tn tc],.agg #[.string a,.string b]] W (.tuple #[.int .i64 x,.int .i64 0])):=zH λW hb=>by
     have:=aJv aut.names aut.spaces a b nA nn nc sA sn sc fA tn fc tA tn tc W (HRN.out.keepW hb) (HRS.out.keepW hb) JC Di;rw[hle] at this;exact this
    obtain⟨nlr,-⟩:=HO5.out.F5
    have HAC:Hid (∀W,Bw KJ W->Rt 31 #[.agg (o5 k mn mx el ck ns nl sp A1 n1 c1 A2 n2 c2 pr A0 n0 c0),.slice eA en ec,.slice lA aLX.length lc,.agg #[.string a,.string b]] W (.bool mb)):=zH λW hb=>by
     rw[<-aGP];exact aK6 p elems aLX a b _ W eA en ec lA aLX.length lc (jG.out.keepW (apr.seq hb)) (HE.out.keepW (apr.seq hb)) ((HO5.out.keep hb).F5.2) (by have:=HO5.out.row (λ_=>rfl) zD;obtain⟨_,_,_,_,h1,h2⟩:=this;unfold maxLen at h2;omega) aP4.out HNP.out HLF.out
    have aTj:=zH aiq;have HMB:=zH hmb;have Ph:=zH eG;have aTn:=zH hrs;clear hvn hle hrs eG aiq azt aGP hmb;have aG0:=aL9.out;have t0:=Since.cell kc0;have t1:=Since.cell kc1;have t2:=Since.cell kc2;have t3:=Since.cell kc3;have t4:=Since.cell y0;have t5:=Since.cell y1;go_wp2_with fail;refine yh zK zK ?_
    repeat (go_big_quiet_step (first | (go_at_call 28;exact Eo (HLT.out _ (Since.below _)))))
    refine wpQuiet_nil ?_;intro MQ hq;have Xo:=Ap hq;have axj:Bw KJ MQ:=Xo;have z0:=(axj.cell (World.block_lt_of_cell? _ _ y0)).trans y0;have z1:=(axj.cell (World.block_lt_of_cell? _ _ y1)).trans y1;have aG1:=aTi.out.seq axj;clear kc0 kc1 kc2 kc3 q0 q1 q2 q3 q4 q5 q6 q7 q8 q9 aF aG y0 y1 t0 t1 t2 t3 t4 t5 hq Xo;obtain⟨kc0,kc1,kc2,kc3⟩:=blk4 (ae vC.out aG1);obtain⟨q0,q1,q2,q3,q4,q5,q6,q7,q8,q9,aF,aG⟩:=aj (ae aQ.out (aG0.seq axj));obtain⟨A4,c4,e4,hrH,-,-⟩:=(HOH.out.keep axj).row YS zD;obtain⟨rfl,hnH,rfl⟩:=z19 e4;obtain⟨jB,hof,hx,HHX,h0c,hhx⟩:=hrH.hdr (i:=st) (by rw[lM.out.len];exact(z4.1 aTn.out).1) tc;obtain⟨l,qw,lW⟩:=lM.out.get HHX.out;obtain rfl:r=l:=zI (aTn.out.symm.trans qw);obtain⟨A5,c5,e5,hrI,-,-⟩:=(lW.keep axj).row MG zD;rw[e5] at h0c;obtain⟨rb,ro,vx,HVX,r0,rix⟩:=hrI.int hxr c5;obtain rfl:v=vx:=zI (Ph.out.symm.trans HVX.out);rw[<-hnH] at hhx;have dx1:decide ((x:Int)<0)=false:=(by simp);have dx2:decide (((r.length:Nat):Int)<=(x:Int))=false:=(by simp;omega);have uw:=HFN.out
    have hv:decide ((tn:Int)<=v)=false/\decide (v< -1)=false/\decide (0<=v)=mb/\decide (v<0)=!mb:=by
     rcases aTj.out with ⟨h1,h2⟩ | ⟨n',h1,h2,h3,-⟩
     ·subst h2;rw[h1];simp;omega
     subst h3;rw[h1];simp;omega
    obtain⟨hv1,Ue,hv3,hv4⟩:=hv;have L8:(mb !=mb)=false:=(by cases mb<;>rfl);have s0:=Since.cell q0;have s1:=Since.cell q1;have s2:=Since.cell q2;have s3:=Since.cell q3;have s4:=Since.cell q4;have s5:=Since.cell q5;have s6:=Since.cell q6;have s7:=Since.cell q7;have s8:=Since.cell q8;have s9:=Since.cell q9;have s10:=Since.cell aF;have UQ:=Since.cell aG;have u0:=Since.cell z0;have u1:=Since.cell z1;have u2:=Since.cell kc2;have aL8:=zH axj;have aTS:=zH aG1;clear qw lW hrI hrH e4 e5 hnH uw;go_wp2_with fail;refine yh zK zK ?_
    repeat (go_big_quiet_step (first | (go_at_call 31;exact Eo (HAC.out _ (aL8.out.seq (Since.below _))))))
    refine wpQuiet_nil ?_;intro KX hq;have Xo:=Ap hq;have ai1:Bw KJ KX:=aL8.out.seq Xo;have ayr:=apr.seq ai1;have aMa:=aG0.seq ai1;clear q0 q1 q2 q3 q4 q5 q6 q7 q8 q9 aF aG s0 s1 s2 s3 s4 s5 s6 s7 s8 s9 s10 UQ;obtain⟨q0,q1,q2,q3,q4,q5,q6,q7,q8,q9,aF,aG⟩:=aj (ae aQ.out aMa)
    rcases aTj.out with ⟨h1,h2⟩ | ⟨n',h1,h2,h3,h4⟩
    ·subst h2;have hdm:=aPg azq.out HI.out HN.out (by rw[<-pR.out];omega) HVB.out HMB.out
     have HCW:Hid (∀W,Bw w W->Rt 23 #[.agg (o5 k mn mx el ck ns nl sp A1 n1 c1 A2 n2 c2 pr A0 n0 c0),.slice eA en ec,.slice alH un uc] W (.tuple #[.bool false,.int .i64 j,.int .i64 0])):=zH λW hb=>by
      have:=Sz p elems wd _ W eA en ec alH un uc (jG.out.keepW hb) (HE.out.keepW hb) jR (HU.out.keepW hb) JL (HT.out.below hb);rw[hdm] at this;exact this
     have hjd:decide ((j:Int)=(j:Int))=true:=(by simp);have hjb:((j:Int)==(j:Int))=true:=(by simp);clear hdm;go_wp2_with fail;refine (HCW.out _ ayr).mono ?_;rintro e w25 ⟨rfl,ac3⟩;go_wp2_with fail;refine (axE.out _ (ayr.seq ac3)).mono ?_;rintro e w26 ⟨rfl,aQu⟩;go_wp2_with fail;go_ret;exact⟨rfl,ayr.seq (ac3.seq aQu)⟩
    subst h3 h1;have HNI:=zH h4;go_wp2_with fail;go_roundw
    case rel=>exact⟨n',j+1,rfl,by go_num,zO,HNI,aTi.out.seq ai1⟩
    simp[intOf];omega
end Go.Proofs.YtgmnnegfndpakaaGreatDoor
