import Derived.Test.YtgmnnegfndpakaaGreatDoorAwkA
import Derived.Test.YtgmnnegfndpakaaGreatDoorH39
set_option maxHeartbeats 20000000
set_option maxRecDepth 100000
namespace Go.Proofs.YtgmnnegfndpakaaGreatDoor
open Go.RowKit
theorem akk(p:aJ)(elems:List (List Nm))(wd:List Nm)(cs:List Value)(w:World)(eA:Option Addr)(en ec:Nat)(alH:Option Addr)(un uc:Nat)(hr:au w (· <w.heap.size) (aZ p) cs)(Yw:aem w p cs)(he:bM w (· <w.heap.size) 1 (elems.map nU) eA en)(jR:en<6000000000000)
 (hu:aY w (· <w.heap.size) 2 dK wd alH un) (JL:un<6000000000000) (huc:un<=uc) (hT:Tab w):
 Rt 5 #[.agg cs.toArray,.slice eA en ec,.slice alH un uc] w (.bool true):=by
 obtain⟨k,mn,mx,el,ck,ns,nl,sp,A1,n1,c1,A2,n2,c2,pr,A0,n0,c0,rfl,-⟩:=aW hr;obtain⟨w1,bI,S1,nC,ai⟩:=af w (.cells #[.int .i64 k,.int .i64 mn,.int .i64 mx,.int .i64 el,.int .i64 ck,.string ns,.string nl,.string sp,.slice A1 n1 c1,.slice A2 n2 c2,.int .i64 pr,.slice A0 n0 c0] 29);have q0:=aj S1;have hlen:un=wd.length:=hu.1;obtain⟨E,hE⟩:=zF (kN elems p);obtain⟨aN5,hvw⟩:=zF ((!wd.any oZ));have aNZ:Hid (∀W,Bw w W->Cl 11 #[.agg (o5 k mn mx el ck ns nl sp A1 n1 c1 A2 n2 c2 pr A0 n0 c0),.slice eA en ec] W λe w'=>ayD e/\Bw W w'):=zH λW hb=>ajb p elems _ W _ eA en ec (hr.below hb) (he.keepW hb) jR;have aN0:Hid (∀W,Bw w W->Rt 20 #[.slice alH un uc] W (.bool aN5)):=zH λW hb=>(by rw[<-hvw];exact amv wd alH un uc W _ (hu.keepW hb) JL);have aD9:Hid (∀W,Bw w W->Rt 14 #[.agg (o5 k mn mx el ck ns nl sp A1 n1 c1 A2 n2 c2 pr A0 n0 c0),.slice eA en ec] W (.int .i64 E)):=zH λW hb=>(by rw[<-hE];exact acN elems p _ eA en ec W _ _ (hr.below hb) (he.below hb) jR);have aN1:Hid (∀W,Bw w W->Cl 21 #[.agg (o5 k mn mx el ck ns nl sp A1 n1 c1 A2 n2 c2 pr A0 n0 c0)] W λe w'=>ayD e/\Bw W w'):=zH λW hb=>aJu p _ W _ (hr.below hb);have aN2:Hid (∀W,Bw w W->Cl 22 #[.agg (o5 k mn mx el ck ns nl sp A1 n1 c1 A2 n2 c2 pr A0 n0 c0),.int .i64 5] W λe w'=>(∃k:Int,e= .returned (.int .i64 k))/\Bw W w'):=zH λW hb=>aja 5 zD p _ W _ (hr.below hb);have axE:Hid (∀W,Bw w W->Rt 12 #[] W (.bool true)):=zH λW hb=>ame W (hT.below hb);have jG:=zH hr;have aAS:=zH Yw;have HE:=zH he;have HU:=zH hu;have HT:=zH hT;have aQ:=zH S1;have nK:=zH ai;have HEE:=zH hE;have HVW:=zH hvw;have pR:=zH hlen;clear hr Yw he hu hT S1 ai hE hvw hlen;go_enter Tryz.func5,Tryz.ntmps5;go_upto_region 1 with fail
 go_cut [37] (λs37 W=>∃g:Bool,s37= .bool g/\Hid (g=false->E=0/\un<=5/\aN5=true)/\Bw w1 W)
 case first=>
  go_wp2_with fail;refine (aNZ.out _ nK.out).mono ?_;rintro e w2 ⟨⟨b,rfl⟩,ag⟩;cases b
  rotate_left 1
  ·go_wp2_with fail;go_meet;exact⟨true,rfl,zH (λh=>by cases h),ag⟩
  by_cases h5:5<un
  ·have hd:decide ((5:Int)<(un:Int))=true:=(by simp;omega);go_wp2_with fail;go_meet;exact⟨true,rfl,zH (λh=>by cases h),ag⟩
  have hd:decide ((5:Int)<(un:Int))=false:=(by simp;omega);go_wp2_with fail;refine (aN0.out _ (nK.out.seq ag)).mono ?_;rintro e w3 ⟨rfl,az⟩;have Ep:=ag.seq az;cases aN5
  ·go_wp2_with fail;go_meet;exact⟨true,rfl,zH (λh=>by cases h),Ep⟩
  clear q0;have q0:=aj (ae aQ.out Ep);go_wp2_with fail;refine (aD9.out _ (nK.out.seq Ep)).mono ?_;rintro e w4 ⟨rfl,aX⟩;have wU:=Ep.seq aX;by_cases h0:E=0
  rotate_left 1
  ·have jV:(E !=0)=true:=(by simpa using h0);have gJ:decide (E=0)=false:=(by simpa using h0);have aQd:(E==0)=false:=(by simpa using h0);go_wp2_with fail;go_meet;exact⟨true,rfl,zH (λh=>by cases h),wU⟩
  subst h0;clear q0;have q0:=aj (ae aQ.out wU);go_wp2_with fail;refine (aN1.out _ (nK.out.seq wU)).mono ?_;rintro e w5 ⟨⟨b,rfl⟩,bg⟩;have ES:=wU.seq bg;cases b
  rotate_left 1
  ·go_wp2_with fail;go_meet;exact⟨true,rfl,zH (λh=>by cases h),ES⟩
  clear q0;have q0:=aj (ae aQ.out ES);go_wp2_with fail;refine (aN2.out _ (nK.out.seq ES)).mono ?_;rintro e w6 ⟨⟨kk,rfl⟩,dQ⟩;obtain⟨g,hg⟩:=zF (decide (24<kk));go_wp2_with fail;go_meet;exact⟨g,rfl,zH (λ_=>⟨(by first | rfl | trivial),zO,(by first | rfl | trivial)⟩),ES.seq dQ⟩
 obtain⟨wb,hwb⟩:=zE wc;subst hwb;obtain⟨g,rfl,HG,CZ⟩:=hcut;have aH:=nK.out.seq CZ;clear q0;have q0:=aj (ae aQ.out CZ);cases g
 rotate_left 1
 ·go_wp2_with fail;refine (axE.out _ aH).mono ?_;rintro e w3 ⟨rfl,az⟩;go_wp2_with fail;go_ret;exact⟨rfl,aH.seq az⟩
 obtain⟨hE0,hl5,hv⟩:=HG.out rfl;have aA6:kN elems p=0:=(by rw[HEE.out];exact hE0);obtain⟨-,-,-,lQ,aKy,-⟩:=J5 aA6;obtain⟨mb,mk,hme,kV,hmt,BZ⟩:=aMz aA6 (w:=wd) (by rw[<-pR.out];omega) (by have:=HVW.out;rw[hv] at this;simpa using this)
 have hac:aaU (aaw (auc (Gf elems) p) p.mn p.mx wd)=mb:=by
  cases mb with
  | true=>exact acE (BZ.1 rfl)
  | false=>exact aeT λh=>by have:=BZ.2 h;cases this
 have aN3:Hid (Rt 23 #[.agg (o5 k mn mx el ck ns nl sp A1 n1 c1 A2 n2 c2 pr A0 n0 c0),.slice eA en ec,.slice alH un uc] wb (.tuple #[.bool mb,.int .i64 mk,.int .i64 0])):=zH (by
  have:=Sz p elems wd _ wb eA en ec alH un uc (jG.out.keepW aH) (HE.out.keepW aH) jR (HU.out.keepW aH) JL (HT.out.below aH);rw[hme] at this
  exact this)
 have aKz:Hid (∀W,Bw w W->Rt 24 #[.agg (o5 k mn mx el ck ns nl sp A1 n1 c1 A2 n2 c2 pr A0 n0 c0),.slice eA en ec,.slice alH un uc] W (.bool mb)):=zH λW hb=>by
  rw[<-hac];exact aM9 (aNz elems p true aKy) lQ wd W _ eA en ec alH un uc ⟨jG.out.keepW hb,aAS.out.keepW hb,HE.out.keepW hb⟩ (HU.out.keepW hb) JL huc
 rw[<-pR.out] at kV hmt;have xy:=zH kV;have HMT:=zH hmt;have jy:=zH CZ;have nG:=zH aH;clear hE0 hv aA6 lQ aKy hme BZ hac hmt CZ aH;go_wp2_with fail;refine aN3.out.mono ?_;rintro e w3 ⟨rfl,az⟩;have jc:decide ((un:Int)<(mk:Int))=false:=(by simp;omega);have sZ:decide ((mk:Int)<0)=false:=(by simp);have aN4:=jy.out.seq az;have Ep:=nG.out.seq az;clear q0;have q0:=aj (ae aQ.out aN4);have BM:(mb==mb)=true:=(by simp);have DX:decide (mb=mb)=true:=(by simp);cases mb
 rotate_left 1
 ·obtain rfl:mk=un:=HMT.out rfl;have Ef:((mk:Int) !=(mk:Int))=false:=(by simp);have PL:decide ((mk:Int)=(mk:Int))=true:=(by simp);have aO8:((mk:Int)==(mk:Int))=true:=(by simp);go_wp2_with fail;refine (aKz.out _ Ep).mono ?_;rintro e w4 ⟨rfl,aX⟩;go_wp2_with fail;refine (axE.out _ (Ep.seq aX)).mono ?_;rintro e w5 ⟨rfl,bg⟩;go_wp2_with fail;go_ret;exact⟨rfl,Ep.seq (aX.seq bg)⟩
 go_wp2_with fail;refine (aKz.out _ Ep).mono ?_;rintro e w4 ⟨rfl,aX⟩;go_wp2_with fail;refine (axE.out _ (Ep.seq aX)).mono ?_;rintro e w5 ⟨rfl,bg⟩;go_wp2_with fail;go_ret;exact⟨rfl,Ep.seq (aX.seq bg)⟩
end Go.Proofs.YtgmnnegfndpakaaGreatDoor
