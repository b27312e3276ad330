import Derived.Test.YtgmnnegfndpakaaGreatDoorMentP
import Derived.Test.YtgmnnegfndpakaaGreatDoorG06
set_option maxHeartbeats 20000000
set_option maxRecDepth 100000
namespace Go.Proofs.YtgmnnegfndpakaaGreatDoor
open Go.RowKit
theorem Pz(w:World)(o o1 o2 o3:Obj):∃w1,(((w.alloc o).alloc o1).alloc o2).alloc o3=w1/\w1.heap[w.heap.size]?=some o/\w1.heap[w.heap.size+1]?=some o1/\w1.heap[w.heap.size+1+1]?=some o2/\w1.heap[w.heap.size+1+1+1]?=some o3/\w.heap.size+1+1+1<w1.heap.size/\Bw w w1:=by
 obtain⟨w1,bI,h1,h2,h3,hs,hb⟩:=rD w o o1 o2
 have su:w1.heap.size=w.heap.size+1+1+1:=by rw[<-bI];simp
 rw[bI];refine⟨_,rfl,fK h1,fK h2,fK h3,?_,by simp;omega,hb.alloc zO _⟩;rw[<-su];exact heap_alloc_new _ _
def G8(av:List Nm):List (Nm×Bool):=av.foldl (λm x=>iK eqN x false m) []
theorem am2{av:List Nm}{i:Nat}{x:Nm}(h:av[i]?=some x):G8 (av.take (i+1))=iK eqN x false (G8 (av.take i)):=by
 obtain⟨h1,rfl⟩:=List.getElem?_eq_some_iff.1 h;unfold G8;rw[List.take_succ_eq_append_getElem h1,List.foldl_append];rfl
theorem abd(av:List Nm)(A:Option Addr)(n c:Nat)(l:List aT)(A':Option Addr)(n' c':Nat)(w:World)(F F':Nat->Prop)(ahE:aY w F 2 dK av A n)(bQ:jO w F' l A' n')(hn:n<2000000)(CO:n'<2000000):
 Calls Tryz.prog 215 #[.slice A n c,.slice A' n' c'] w λe w'=>∃g1 g2,e= .returned (.agg #[.map (some g1),.map (some g2)])/\iI w' g1 g2 (kT l (G8 av,[]))/\g1≠g2/\w.heap.size<g1/\w.heap.size<g2/\Bw w w':=by
 have D6:=ahE.here Iu;have h1:=bQ.here;clear ahE bQ;obtain⟨w1,bI,S1,S2,S3,S4,lY,ai⟩:=Pz w (.cells #[.map none,.map none] 248) (.map #[] 0) (.map #[] 0) (.cells #[.map (some (w.heap.size+1)),.map (some (w.heap.size+1+1))] 248);have T1:iM w1 (w.heap.size+1) tq []:=S2;have T2:iM w1 (w.heap.size+1+1) lg []:=S3;have a0:=dw S4;have aQ:=zH S1;have gW:=zH T1;have fC:=zH T2;have WU:=zH S4;have L8:=@run_makeMap Tryz.prog;clear S1 S2 S3 S4 T1 T2;go_enter Tryz.func215,Tryz.ntmps215;go_wp2_with fail;have HW:=zH bI;clear bI L8 a0
 go_loopw [16] (λsi wr=>∃i:Nat,i<=n/\si= .int .i64 i/\iM wr (w.heap.size+1) tq (G8 (av.take i))/\Kept (· =w.heap.size+1) w1 wr)
  (λsi _=>n - (intOf si).toNat)
 case atStart=>exact⟨0,zO,rfl,gW.out,Kept.refl _ _⟩
 case round=>
  obtain⟨i,hi,rfl,BX,eF⟩:=hrel;have zi:=zH BX;have aH:Bw w wr:=ai.trans (eF.below zO (by intro k hk e;omega));have S4:=bF WU.out eF zO;have a0:=dw S4;have Bz:=eF.size;clear BX S4;by_cases aN:i<n
  ·obtain⟨b,off,a,s,HX,p0,p1,dO⟩:=(D6.below aH).name aN c
   have hd:decide (i<n)=true:=(by simp;omega);obtain⟨w5,pq,S5,VC,bg⟩:=af wr (.cells #[.string a,.string s] 23);obtain⟨r0,r1⟩:=dw S5;have VD:=zH (zi.out.below bg);have S4:=ae (bF WU.out eF zO) bg;have x0:=dw S4;have RF:=zH (am2 HX.out);clear S5 S4
   go_wp2_with (first
    | (at_mapUpdate;refine Xp rfl (.tmp 21) (.tmp 22) (.const (.bool false)) 246 rfl (et:=4) ahk zK (w.heap.size+1) _ rfl VD.out (a,s) rfl false rfl ?_
       intro w6 h6a h6b h6c h6d)
    | fail)
   go_roundw
   case rel=>exact⟨i+1,zO,by go_num,by rw[RF.out];exact h6a,(eF.trans (Kept.of_below bg)).trans h6d⟩
   case measure=>simp[intOf];omega
  ·have hd:decide (i<n)=false:=by simp;omega
   have Xt:av.take i=av:=List.take_of_length_le (by have:=D6.len;omega);have HMQ:Hid (iM wr (w.heap.size+1) tq (G8 av)):=zH (by have h:=zi.out;rw[Xt] at h;exact h);obtain⟨wo,rfl⟩:∃wo:World,wo=wr:=⟨_,rfl⟩;obtain⟨w2,mJ,S2,oW,ag⟩:=af wo (.cells #[.func (.func 235) #[] #[.pointer (some ⟨w.heap.size+1+1+1,0,none⟩),.pointer (some ⟨wo.heap.size,0,none⟩)]] 206);have G7:Hid (iI w2 (w.heap.size+1) (w.heap.size+1+1) (G8 av,[])):=zH ⟨HMQ.out.below ag,(fC.out.keep (eF.block _ zO zO)).below ag⟩;have vJ:Hid (EZ w2 (w.heap.size+1+1+1) wo.heap.size (w.heap.size+1) (w.heap.size+1+1)):=zH ⟨ae (bF WU.out eF zO) ag,S2⟩;have aBG:=zH (ae (bF aQ.out eF zO) ag);have GH:Bw w w2:=aH.trans (ag.mono zO)
   have HX0:Hid (∀ch,ch∈l->∀(cs:List Value) (W:World) (B:Nat) (m:oI),dA W (· <B) ch cs->B<=w.heap.size+1->B<=w.heap.size+1+1->w.heap.size+1≠w.heap.size+1+1->EZ W (w.heap.size+1+1+1) wo.heap.size (w.heap.size+1) (w.heap.size+1+1)->iI W (w.heap.size+1) (w.heap.size+1+1) m->
    Calls Tryz.prog 235 #[.agg cs.toArray,.pointer (some ⟨w.heap.size+1+1+1,0,none⟩),.pointer (some ⟨wo.heap.size,0,none⟩)] W λe w'=>e= .returned (.tuple #[])/\iI w' (w.heap.size+1) (w.heap.size+1+1) (J9 ch m)/\Kept (λb=>b=w.heap.size+1\/b=w.heap.size+1+1) W w'):=
    zH λch _=>acT _ _ _ _ ch
   have hB1:w.heap.size<=w.heap.size+1:=(by omega);have hB2:w.heap.size<=w.heap.size+1+1:=(by omega);have dD:w.heap.size+1≠w.heap.size+1+1:=(by omega);clear S2 Xt;go_wp2_with fail;have HW2:=zH mJ;clear mJ a0
   go_loopw [27] (λsi wr=>∃i:Nat,i<=n'/\si= .int .i64 i/\∃sy,Hid (kT l (G8 av,[])=kT (l.drop i) sy)/\iI wr (w.heap.size+1) (w.heap.size+1+1) sy/\Kept (λb=>b=(w.heap.size+1)\/b=(w.heap.size+1+1)) w2 wr)
    (λsi _=>n' - (intOf si).toNat)
   case atStart=>exact⟨0,zO,rfl,_,zH rfl,G7.out,Kept.refl _ _⟩
   case round=>
    obtain⟨i,hi,rfl,sy,HL,BX,eF⟩:=hrel;have aH:Bw w wr:=GH.trans (eF.below zO (by intro k hk e;omega));have Bv:=vJ.out.kept G7.out eF;have a2:=aO Bv.2;have Lm:=zH Bv;have zi:=zH BX;have Bz:=eF.size;clear Bv BX;by_cases aN:i<n'
    ·obtain⟨b,off,ch,v0,v1,v2,v3,v4,v5,HX,kP,p0,p1,p2,p3,p4,p5,dO⟩:=h1.LU aH aN c'
     have hd:decide (i<n')=true:=(by simp;omega);obtain⟨k0,n0,l0,s0,A0,m0,d0,A1,m1,d1,rfl,rfl,rfl,rfl,rfl,rfl⟩:=kP.shape;obtain⟨w5,pq,S5,VC,bg⟩:=af wr (.cells #[.int .i64 k0,.string n0,.string l0,.string s0,.slice A0 m0 d0,.slice A1 m1 d1] 26);have Jf:=kP.below (bg.mono zO);have RD:iI w5 (w.heap.size+1) (w.heap.size+1+1) sy:=⟨zi.out.1.below bg,zi.out.2.below bg⟩;have Dp:EZ w5 (w.heap.size+1+1+1) wo.heap.size (w.heap.size+1) (w.heap.size+1+1):=⟨ae Lm.out.1 bg,ae Lm.out.2 bg⟩;have a5:=aO Dp.2;obtain⟨r0,r1,r2,r3,r4,r5⟩:=gG S5;have acU:=zH Jf;have VD:=zH RD;have acV:=zH Dp;clear S5 Jf RD Dp kP;go_wp2_with fail;refine (HX0.out ch (qN HX) _ _ w.heap.size sy acU.out hB1 hB2 dD acV.out VD.out).mono ?_;rintro e w6 ⟨rfl,nJ,dm⟩;go_wp2_with fail;go_roundw
     case rel=>exact⟨i+1,zO,by go_num,_,zH (by rw[HL.out,Oc _ HX.out]),nJ,(eF.trans (Kept.of_below bg)).trans dm⟩
     case measure=>simp[intOf];omega
    ·have hd:decide (i<n')=false:=by simp;omega
     have zU:l.drop i=[]:=z14 (by have:=h1.len;omega);have HEX:Hid (kT l (G8 av,[])=sy):=zH (by rw[HL.out,zU,kT]);have apW:=Lm.out;clear zU;have S1:=bF aBG.out eF zO;have S4:=apW.1;have z0:=dw S1;have t0:=dw S4;have f0:=frozen_of_row wr w.heap.size 0 _ _ S1;have f1:=frozen_of_row wr w.heap.size 1 _ _ S1;obtain⟨wf,UJ⟩:=zF ((wr.setCell ⟨w.heap.size,0,none⟩ (.map (some (w.heap.size+1)))).setCell ⟨w.heap.size,1,none⟩ (.map (some (w.heap.size+1+1))));have Sf:wf.heap[w.heap.size]?=some (.cells #[.map (some (w.heap.size+1)),.map (some (w.heap.size+1+1))] 248):=(by rw[<-UJ];exact Fb (Fa S1));have WI:Bw w wf:=(by rw[<-UJ];exact(aH.setCell (p:=⟨w.heap.size,0,none⟩) (zR _) _).setCell (p:=⟨w.heap.size,1,none⟩) (zR _) _);have hMf:iI wf (w.heap.size+1) (w.heap.size+1+1) sy:=⟨zi.out.1.keep (by rw[<-UJ];exact(Below.heap_setCell _ _ _ _ (by simp<;>omega)).trans (Below.heap_setCell _ _ _ _ (by simp<;>omega))),zi.out.2.keep (by rw[<-UJ];exact(Below.heap_setCell _ _ _ _ (by simp<;>omega)).trans (Below.heap_setCell _ _ _ _ (by simp<;>omega)))⟩;obtain⟨g0,g1'⟩:=dw Sf;have HMf:=zH hMf;clear S1 S4 Sf hMf apW;go_wp2_with fail;(try simp only[Exit.inBlock,Exit.then]);refine bodyPost_ret (v:=.agg #[.map (some (w.heap.size+1)),.map (some (w.heap.size+1+1))]) (by simp[results,Tryz.results215,go_sem,g0,g1']) rfl ?_;exact⟨_,_,rfl,by rw[HEX.out];exact HMf.out,dD,zO,zO,WI⟩
theorem abe(av:List Nm)(A:Option Addr)(n c:Nat)(l:List aT)(A':Option Addr)(n' c':Nat)(w:World)(F F':Nat->Prop)(ahE:aY w F 2 dK av A n)(bQ:jO w F' l A' n')(hn:n<2000000)(CO:n'<2000000):
 Calls Tryz.prog 215 #[.slice A n c,.slice A' n' c'] w λe w'=>∃g1 g2,e= .returned (.agg #[.map (some g1),.map (some g2)])/\iI w' g1 g2 (kT l (G8 av,[]))/\g1≠g2/\Bw w w':=by
 refine (abd av A n c l A' n' c' w F F' ahE bQ hn CO).mono ?_;rintro e w' ⟨g1,g2,h1,h2,h3,-,-,h4⟩;exact⟨g1,g2,h1,h2,h3,h4⟩
theorem call65(x y:Bool)(W:World):(callFunc 179 #[.bool x,.bool y]).run Tryz.prog W= .ok (.enter 179 #[.bool x,.bool y]) W:=by kernel_rfl
theorem akD(x y:Bool)(w:World):Calls Tryz.prog 179 #[.bool x,.bool y] w λe w'=>e= .returned (.bool (x))/\w'=w:=by
 go_enter Tryz.func179,Tryz.ntmps179;cases x<;>cases y<;>(go_wp2_with fail;go_ret;exact⟨rfl,rfl⟩)
def EJ:List aT->Int
 | []=>0
 | c::r=>if xO c=0 then EJ r else xO c
theorem akE{l:List aT}{i:Nat}{c:aT}(h:l[i]?=some c):EJ (l.drop i)=if xO c=0 then EJ (l.drop (i+1)) else xO c:=by
 obtain⟨h1,rfl⟩:=List.getElem?_eq_some_iff.1 h;rw[nZ h1,EJ]
theorem afi(l:List aT)(A:Option Addr)(n c:Nat)(w:World)(F:Nat->Prop)(bQ:jO w F l A n)(hn:n<2000000):
 Rt 214 #[.slice A n c] w (.int .i64 (EJ l)):=by
 have h1:=bQ.here;clear bQ;go_enter Tryz.func214,Tryz.ntmps214;go_wp2_with fail
 go_loopw [8] (λsi wr=>∃i:Nat,i<=n/\si= .int .i64 i/\Hid (EJ l=EJ (l.drop i))/\Bw w wr)
  (λsi _=>n - (intOf si).toNat)
 case atStart=>exact⟨0,zO,rfl,zH rfl,Below.refl _ _⟩
 case round=>
  obtain⟨i,hi,rfl,HL,aH⟩:=hrel;by_cases aN:i<n
  ·obtain⟨b,off,ch,v0,v1,v2,v3,v4,v5,HX,kP,p0,p1,p2,p3,p4,p5,dO⟩:=h1.LU aH aN c
   have hd:decide (i<n)=true:=(by simp;omega);obtain⟨k0,n0,l0,s0,A0,m0,d0,A1,m1,d1,rfl,rfl,rfl,rfl,rfl,rfl⟩:=kP.shape;obtain⟨w5,pq,S5,VC,bg⟩:=af wr (.cells #[.int .i64 k0,.string n0,.string l0,.string s0,.slice A0 m0 d0,.slice A1 m1 d1] 26);have aIk:=aH.size;have Jf:=kP.below (bg.mono zO);have r0:=gG S5;obtain⟨v,hv⟩:=zF (xO ch);have HD:=zH (akE HX.out);have HC:=zH (Fj ch _ w5 _ Jf hv);have HV:=zH hv;clear S5 Jf kP hv;go_wp2_with fail;refine HC.out.mono ?_;rintro e w6 ⟨rfl,dQ⟩;have atK:Bw w w6:=(aH.trans (bg.mono zO)).trans (dQ.mono zO);by_cases h0:v=0
   ·subst h0
    go_wp2_with fail;go_roundw
    case rel=>exact⟨i+1,zO,by go_num,zH (by rw[HL.out,HD.out,HV.out];simp),atK⟩
    case measure=>simp[intOf];omega
   ·have jV:decide (v=0)=false:=by simp[h0]
    go_wp2_with fail;go_ret;exact⟨by rw[HL.out,HD.out,HV.out];simp[h0],atK⟩
  ·have hd:decide (i<n)=false:=by simp;omega
   have HE:Hid (EJ l=0):=zH (by rw[HL.out,List.drop_of_length_le (by have:=h1.1;omega)];rfl);go_wp2_with fail;go_ret;exact⟨by rw[HE.out];first | rfl | simp | (simp[Ending.returned]),aH⟩
end Go.Proofs.YtgmnnegfndpakaaGreatDoor
