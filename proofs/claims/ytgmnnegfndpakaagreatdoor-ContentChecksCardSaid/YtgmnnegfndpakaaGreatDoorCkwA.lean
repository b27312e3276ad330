import Derived.Test.YtgmnnegfndpakaaGreatDoorAwkA
set_option maxHeartbeats 20000000
set_option maxRecDepth 100000
namespace Go.Proofs.YtgmnnegfndpakaaGreatDoor
open Go.RowKit
theorem amf(p:aJ)(elems:List (List Nm))(cs:List Value)(w:World)(eA:Option Addr)(en ec:Nat)(hr:au w (· <w.heap.size) (aZ p) cs)(he:bM w (· <w.heap.size) 1 (elems.map nU) eA en)(jR:en<6000000000000)(hT:Tab w):
 Rt 3 #[.agg cs.toArray,.slice eA en ec] w (.bool true):=by
 obtain⟨k,mn,mx,el,ck,ns,nl,sp,A1,n1,c1,A2,n2,c2,pr,A0,n0,c0,rfl,-⟩:=aW hr;obtain⟨w1,bI,S1,nC,ai⟩:=af w (.cells #[.int .i64 k,.int .i64 mn,.int .i64 mx,.int .i64 el,.int .i64 ck,.string ns,.string nl,.string sp,.slice A1 n1 c1,.slice A2 n2 c2,.int .i64 pr,.slice A0 n0 c0] 29);obtain⟨q0,q1,q2,q3,q4,q5,q6,q7,q8,q9,aF,aG⟩:=aj S1;have HL:=zH (ajb p elems _ w1 _ eA en ec (hr.below ai) (he.keepW ai) jR);have HR:=zH hr;have HE:=zH he;have HT:=zH hT;have aQ:=zH S1;have nK:=zH ai;obtain⟨E,hE⟩:=zF (kN elems p)
 have aD8:Hid (∀W,Bw w W->Rt 13 #[.agg (o5 k mn mx el ck ns nl sp A1 n1 c1 A2 n2 c2 pr A0 n0 c0),.slice eA en ec] W (.int .i64 E)):=zH λW hb=>by rw[<-hE];exact BQ elems p _ eA en ec W _ _ (hr.below hb) (he.below hb) jR
 have aD9:Hid (∀W,Bw w W->Rt 14 #[.agg (o5 k mn mx el ck ns nl sp A1 n1 c1 A2 n2 c2 pr A0 n0 c0),.slice eA en ec] W (.int .i64 E)):=zH λW hb=>by rw[<-hE];exact acN elems p _ eA en ec W _ _ (hr.below hb) (he.below hb) jR
 have axE:Hid (∀W,Bw w W->Rt 12 #[] W (.bool true)):=zH λW hb=>ame W (HT.out.below hb);clear hr he hT S1 ai hE;go_enter Tryz.func3,Tryz.ntmps3;go_wp2_with fail;refine HL.out.mono ?_;rintro e w2 ⟨⟨b,rfl⟩,ag⟩;have mX:Bw w w2:=nK.out.seq ag;cases b
 ·clear q0 q1 q2 q3 q4 q5 q6 q7 q8 q9 aF aG
  obtain⟨q0,q1,q2,q3,q4,q5,q6,q7,q8,q9,aF,aG⟩:=aj (ae aQ.out ag);have s0:=Since.cell q0;have s1:=Since.cell q1;have s2:=Since.cell q2;have s3:=Since.cell q3;have s4:=Since.cell q4;have s5:=Since.cell q5;have s6:=Since.cell q6;have s7:=Since.cell q7;have s8:=Since.cell q8;have s9:=Since.cell q9;have s10:=Since.cell aF;have UQ:=Since.cell aG
  have h1:(E==E)=true:=by simp
  have h2:decide (E=E)=true:=by simp
  go_wp2_with fail;refine yh zK zK ?_
  repeat (quiet_step (first
   | (go_at_call 13;exact Eo (aD8.out _ (mX.seq (Since.below _))))
   | (go_at_call 14;exact Eo (aD9.out _ (mX.seq (Since.below _))))
   | (go_at_call 12;exact Eo (axE.out _ (mX.seq (Since.below _))))))
  refine wpQuiet_nil ?_;intro wq hq;have Xo:=Ap hq;clear hq;go_wp2_with fail;go_ret;exact⟨rfl,mX.seq Xo⟩
 ·go_wp2_with fail
  refine (axE.out w2 mX).mono ?_;rintro e w3 ⟨rfl,az⟩;go_wp2_with fail;go_ret;exact⟨rfl,mX.seq az⟩
end Go.Proofs.YtgmnnegfndpakaaGreatDoor
