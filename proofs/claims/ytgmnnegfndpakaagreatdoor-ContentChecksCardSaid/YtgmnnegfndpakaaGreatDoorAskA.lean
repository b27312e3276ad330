import Derived.Test.YtgmnnegfndpakaaGreatDoorSomA
set_option maxHeartbeats 20000000
set_option maxRecDepth 100000
namespace Go.Proofs.YtgmnnegfndpakaaGreatDoor
open Go.RowKit
theorem anj(e:Int):WH e e=e:=by unfold WH;split<;>rfl
theorem atN(e:Int)(v:Bool)(h:e≠0):IK e v=false:=if_neg h
theorem akH(c1:aT)(cs1:List Value)(w:World)(F1:Nat->Prop)(LV:dA w F1 c1 cs1)(hT:Tab w):
 Rt 146 #[.agg cs1.toArray] w (.tuple #[.bool (IK (jF c1) (!(TF (ahc 0 c1 c1) (jP [c1,c1] ([],[]))))),.int .i64 (jF c1)]):=by
 obtain⟨e0,he0⟩:=zF (jF c1);obtain⟨v,hv⟩:=zF (TF (ahc 0 c1 c1) (jP [c1,c1] ([],[])));rw[he0,hv];have YO:=LV.here;obtain⟨k1,PH,PI,s1,A1,n1,JE,C9,J6,Gq,rfl⟩:=LV.cells;obtain⟨w1,bI,S1,lY,ai⟩:=af w (.cells #[.int .i64 k1,.string PH,.string PI,.string s1,.slice A1 n1 JE,.slice C9 J6 Gq] 26);have p0:=gG S1
 have H64:Hid (Rt 178 #[.agg #[.int .i64 k1,.string PH,.string PI,.string s1,.slice A1 n1 JE,.slice C9 J6 Gq],.agg #[.int .i64 k1,.string PH,.string PI,.string s1,.slice A1 n1 JE,.slice C9 J6 Gq],.func (.func 179) #[] #[]] w1 (.tuple #[.bool (IK e0 v),.int .i64 e0])):=zH (by
  have h:=ang 179 (λx _=>x) c1 c1 _ _ w1 _ _ (YO.below ai) (YO.below ai) (hT.below ai) (λx y W=>akD x y W) call65;rw[anj,he0] at h;rw[<-hv]
  exact h)
 clear S1 LV YO hT he0 hv;by_cases he:e0=0
 ·subst he
  have Ar:((0:Int)==0)=true:=rfl;have HA:Hid (∀v,IK 0 v=v):=zH λv=>if_pos rfl;have qZ:=zH (HA.out v);obtain⟨av,D6⟩:=zF (IK 0 v);rw[D6] at H64;obtain rfl:av=v:=D6.symm.trans qZ.out;clear D6 qZ;cases av
  all_goals
   go_enter Tryz.func146,Tryz.ntmps146;go_wp2_with fail;refine H64.out.mono ?_;rintro e w2 ⟨rfl,ag⟩;go_wp2_with fail
   go_ret2
   exact⟨by rw[HA.out];rfl,ai.seq ag⟩
 ·have Ar:(e0==0)=false:=by simpa using he
  have HA:=zH (λv=>atN e0 v he);obtain⟨av,D6⟩:=zF (IK e0 v);rw[D6] at H64;have HAV:=zH D6;clear he D6;go_enter Tryz.func146,Tryz.ntmps146;go_wp2_with fail;refine H64.out.mono ?_;rintro e w2 ⟨rfl,ag⟩;go_wp2_with fail
  go_ret2
  exact⟨by rw[HA.out];rfl,ai.seq ag⟩
end Go.Proofs.YtgmnnegfndpakaaGreatDoor
