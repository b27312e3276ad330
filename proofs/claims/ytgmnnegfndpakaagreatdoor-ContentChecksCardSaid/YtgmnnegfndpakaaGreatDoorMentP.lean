import Derived.Test.YtgmnnegfndpakaaGreatDoorG05
import Derived.Maps.Own
import Derived.Deep.DeepFit
set_option maxHeartbeats 20000000
set_option maxRecDepth 100000
namespace Go.Proofs.YtgmnnegfndpakaaGreatDoor
open Go.RowKit
theorem Xp{κ:Type}{P:Program}{ops:Array Oper}{rest:List Oper}{o:Oper}{a:Act}{Q:Exit->Act->World->Prop}{w:World}(uO:o.guard=none)(m x v:Operand)(mt:TypeId)(uQ:o.op= .mapUpdate mt m x v)
 {kt et:TypeId} {enc:κ->Value} {eq:κ->κ->Bool} (K:TI P kt enc eq) (hm:P.underlying mt=some (.map kt et)) (g:Nat) (l:List (κ×Bool)) (hs:a.eval m= .map (some g)) (h:iM w g enc l)
 (k:κ) (hk:a.eval x=enc k) (b:Bool) (hv:a.eval v= .bool b)
 (hK:∀w',iM w' g enc (iK eq k b l)->(∀b,b≠g->w'.heap[b]?=w.heap[b]?)->w'.heap.size=w.heap.size->Kept (· =g) w w'->wpList P ops Q rest (a.put o.dst undef) w'):wpList P ops Q (o::rest) a w:=by
 refine wpList_plain uO λK' hK'=>?_;obtain⟨w',hw,h1,h2,h3,h4⟩:=h.put (l':=iK eq k b l);have bG:=Yy K hm h k b;rw[hw] at bG;unfold Oper.wp;simp[execOp,uQ,hs,hk,hv,bG,Result.andThen];exact hK' _ _ (hK w' h1 h2 h3 h4)
def qQ(w:World)(g:Nat)(o:Obj):World:={ w with heap:=w.heap.setIfInBounds g o }
theorem J8(w:World)(g:Nat)(o:Obj){b:Nat}(i:Nat)(h:b≠g):(qQ w g o).cell? ⟨b,i,none⟩=w.cell? ⟨b,i,none⟩:=
 World.cell?_of_block (w:=w) (a:=⟨b,i,none⟩) (by simp[qQ,Ne.symm h])
theorem aki{κ:Type}{eq:κ->κ->Bool}(hr:∀k,eq k k=true)(k:κ)(v:Bool)(l:List (κ×Bool)):iK eq k v (iK eq k v l)=iK eq k v l:=by
 induction l with
 | nil=>rw[iK,iK,if_pos (hr k)]
 | cons p l ih=>
   obtain⟨k',v'⟩:=p;rw[iK]
   split
   ·rw[iK,if_pos (hr k)]
   ·rename_i h;rw[iK,if_neg h,ih]
def qp{κ:Type}(w:World)(g:Nat)(enc:κ->Value)(l l':List (κ×Bool)):Prop:=iM w g enc l\/iM w g enc l'
theorem qp.set{κ:Type}{w:World}{g:Nat}{enc:κ->Value}{l l':List (κ×Bool)}(h:qp w g enc l l'):iM (qQ w g (ug enc l')) g enc l':=by
 have aN:g<w.heap.size:=by rcases h with h | h<;>exact h.lt
 unfold iM qQ;simp[aN]
theorem iM.Rz{κ:Type}{w:World}{g g':Nat}{enc:κ->Value}{l:List (κ×Bool)}(h:iM w g enc l)(o:Obj)(dD:g≠g'):iM (qQ w g' o) g enc l:=by
 unfold iM qQ at*;simp[Ne.symm dD];exact h
theorem qp.put{κ:Type}{P:Program}{kt mt et:TypeId}{enc:κ->Value}{eq:κ->κ->Bool}(K:TI P kt enc eq)(hr:∀k,eq k k=true)(hm:P.underlying mt=some (.map kt et)){W:World}{g:Nat}{l:List (κ×Bool)}{k:κ}{v:Bool}(h:qp W g enc l (iK eq k v l)):
 (Instr.mapUpdate mt (.map (some g)) (enc k) (.bool v)).run P W= .ok () (qQ W g (ug enc (iK eq k v l))):=by
 rcases h with h | h
 ·exact Yy K hm h k v
 ·have:=Yy K hm h k v
  rw[aki hr] at this;exact this
theorem aak(w:World)(g:Nat)(o:Obj):Kept (· =g) w (qQ w g o):=⟨rfl,rfl,rfl,by simp[qQ],λb _ hb=>by simp[qQ,Ne.symm hb]⟩
theorem amX(x:Nm):eqN x x=true:=by unfold eqN;rw[z7,iV,iV];exact⟨rfl,rfl⟩
theorem amY(x:ByteArray):eqS x x=true:=iV.2 rfl
abbrev oI:=List (Nm×Bool)×List (ByteArray×Bool)
mutual
def J9:aT->oI->oI
 | .mk k ns nl s ex ar,m=>kT ar (kT ex (if k=1 then (iK eqN (ns,nl) true m.1,iK eqS ns true m.2) else if k=2 then (m.1,iK eqS s true m.2) else m))
def kT:List aT->oI->oI
 | [],m=>m
 | c::l,m=>kT l (J9 c m)
end
theorem Oc{l:List aT}{i:Nat}{ch:aT}(m:oI)(h:l[i]?=some ch):kT (l.drop i) m=kT (l.drop (i+1)) (J9 ch m):=by
 obtain⟨hi,hc⟩:=List.getElem?_eq_some_iff.1 h;rw[nZ hi,hc,kT]
def iI(w:World)(g1 g2:Nat)(m:oI):Prop:=iM w g1 tq m.1/\iM w g2 lg m.2
def EZ(w:World)(bm bw g1 g2:Nat):Prop:=w.heap[bm]?=some (.cells #[.map (some g1),.map (some g2)] 248)/\w.heap[bw]?=some (.cells #[.func (.func 235) #[] #[.pointer (some ⟨bm,0,none⟩),.pointer (some ⟨bw,0,none⟩)]] 206)
theorem EZ.kept{w w':World}{bm bw g1 g2:Nat}{m:oI}(h:EZ w bm bw g1 g2)(hm:iI w g1 g2 m)(hk:Kept (λb=>b=g1\/b=g2) w w'):EZ w' bm bw g1 g2:=by
 have n1:bm≠g1/\bm≠g2/\bw≠g1/\bw≠g2:=by
  refine⟨?_,?_,?_,?_⟩
  ·intro e;have:=h.1;rw[e,show w.heap[g1]?=_ from hm.1] at this;cases this
  ·intro e;have:=h.1;rw[e,show w.heap[g2]?=_ from hm.2] at this;cases this
  ·intro e;have:=h.2;rw[e,show w.heap[g1]?=_ from hm.1] at this;cases this
  ·intro e;have:=h.2;rw[e,show w.heap[g2]?=_ from hm.2] at this;cases this
 exact⟨bF h.1 hk (by intro e;rcases e with e | e;exact n1.1 e;exact n1.2.1 e),bF h.2 hk (by intro e;rcases e with e | e;exact n1.2.2.1 e;exact n1.2.2.2 e)⟩
theorem pV{κ:Type}{w:World}{b g:Nat}{cs:Array Value}{t:TypeId}{fr:Nat×Nat}{enc:κ->Value}{l:List (κ×Bool)}(h:w.heap[b]?=some (.cells cs t fr))(hm:iM w g enc l):b≠g:=by
 intro e;rw[e,show w.heap[g]?=_ from hm] at h;cases h
theorem amZ{g1 g2:Nat}{w w':World}(h:Kept (· =g1) w w'):Kept (λb=>b=g1\/b=g2) w w':=⟨h.os,h.tape,h.output,h.size,λk hk hm=>h.block k hk (λe=>hm (.inl e))⟩
theorem acS{g1 g2:Nat}{w w':World}(h:Kept (· =g2) w w'):Kept (λb=>b=g1\/b=g2) w w':=⟨h.os,h.tape,h.output,h.size,λk hk hm=>h.block k hk (λe=>hm (.inr e))⟩
theorem acT(bm bw g1 g2:Nat)(c:aT):∀(cs:List Value) (w:World) (B:Nat) (m:oI),dA w (· <B) c cs->B<=g1->B<=g2->g1≠g2->EZ w bm bw g1 g2->iI w g1 g2 m->
 Calls Tryz.prog 235 #[.agg cs.toArray,.pointer (some ⟨bm,0,none⟩),.pointer (some ⟨bw,0,none⟩)] w λe w'=>e= .returned (.tuple #[])/\iI w' g1 g2 (J9 c m)/\Kept (λb=>b=g1\/b=g2) w w':=by
 induction c using aT.ind with
 | _ k ns nl s ex ar Jv iha=>
   intro cs w B m hr0 hB1 hB2 dD Bv BX;obtain⟨A,n,c,A',n',c',rfl,hl,zS,h1,h2⟩:=hr0.form;have O0:=zH Jv;have HA0:=zH iha;clear Jv iha hr0;obtain⟨w1,bI,hblk,bY,ai⟩:=af w (.cells #[.int .i64 k,.string ns,.string nl,.string s,.slice A n c,.slice A' n' c'] 26);have lV:=BX.1.lt;have qo:=BX.2.lt;have GH:Below B w w1:=ai.mono zO;have ahC:EZ w1 bm bw g1 g2:=⟨ae Bv.1 ai,ae Bv.2 ai⟩;have ahD:iI w1 g1 g2 m:=⟨BX.1.below ai,BX.2.below ai⟩;obtain⟨q0,q1,q2,q3,q4,q5⟩:=gG hblk;obtain⟨a0,a1⟩:=dw ahC.1;obtain⟨m1,iY⟩:=zF ((if k=1 then (iK eqN (ns,nl) true m.1,iK eqS ns true m.2) else if k=2 then (m.1,iK eqS s true m.2) else m));have HC:Hid (J9 (.mk k ns nl s ex ar) m=kT ar (kT ex m1)):=zH (by rw[J9,iY]);have yY:=zH iY;have HB:=zH hblk;have vJ:=zH ahC;have G7:=zH ahD;have am0:=pV hblk ahD.1;have am1:=pV hblk ahD.2;clear iY hblk Bv BX ahC ahD;go_enter Tryz.func235,Tryz.ntmps235;go_upto_block 0 with fail;have HW:=zH bI;clear bI
   go_cut [] (λwc=>iI wc g1 g2 m1/\Kept (λb=>b=g1\/b=g2) w1 wc)
   case first=>
    rcases (show (k==1)=true\/((k==1)=false/\(k==2)=true)\/((k==1)=false/\(k==2)=false) by cases (k==1)<;>cases (k==2)<;>simp) with hk | ⟨hk,dm⟩ | ⟨hk,dm⟩
    ·go_wp2_with fail
     obtain⟨l1,qw⟩:=zF (iK eqN (ns,nl) true m.1);obtain⟨l2,lW⟩:=zF (iK eqS ns true m.2);have e1:m1=(l1,l2):=(by rw[<-yY.out,if_pos (by simpa using hk),qw,lW]);have E1:=zH e1;clear e1
     have u1:∀W,qp W g1 tq m.1 l1->(Instr.mapUpdate 246 (.map (some g1)) (.agg #[.string ns,.string nl]) (.bool true)).run Tryz.prog W= .ok () (qQ W g1 (ug tq l1)):=by
      intro W h;rw[<-qw] at h ⊢;exact h.put (et:=4) ahk amX zK
     have u2:∀W,qp W g2 lg m.2 l2->(Instr.mapUpdate 115 (.map (some g2)) (.string ns) (.bool true)).run Tryz.prog W= .ok () (qQ W g2 (ug lg l2)):=by
      intro W h;rw[<-lW] at h ⊢;exact h.put (et:=4) acd amY zK
     clear qw lW;have k1:∀W i,(qQ W g1 (ug tq l1)).cell? ⟨w.heap.size,i,none⟩=W.cell? ⟨w.heap.size,i,none⟩:=λW i=>J8 W g1 _ i am0;have k2:∀W i,(qQ W g2 (ug lg l2)).cell? ⟨w.heap.size,i,none⟩=W.cell? ⟨w.heap.size,i,none⟩:=λW i=>J8 W g2 _ i am1;have nb1:=pV vJ.out.1 G7.out.1;have nb2:=pV vJ.out.1 G7.out.2;have k3:∀W i,(qQ W g1 (ug tq l1)).cell? ⟨bm,i,none⟩=W.cell? ⟨bm,i,none⟩:=λW i=>J8 W g1 _ i nb1;have k4:∀W i,(qQ W g2 (ug lg l2)).cell? ⟨bm,i,none⟩=W.cell? ⟨bm,i,none⟩:=λW i=>J8 W g2 _ i nb2;have o1:∀W,qp W g1 tq m.1 l1->qp (qQ W g1 (ug tq l1)) g1 tq m.1 l1:=λW h=>.inr h.set;have o2:∀W,qp W g2 lg m.2 l2->qp (qQ W g2 (ug lg l2)) g2 lg m.2 l2:=λW h=>.inr h.set;have o3:∀W,qp W g1 tq m.1 l1->qp (qQ W g2 (ug lg l2)) g1 tq m.1 l1:=λW h=>h.imp (λh=>h.Rz _ dD) (λh=>h.Rz _ dD);have o4:∀W,qp W g2 lg m.2 l2->qp (qQ W g1 (ug tq l1)) g2 lg m.2 l2:=λW h=>h.imp (λh=>h.Rz _ dD.symm) (λh=>h.Rz _ dD.symm);have s1:qp w1 g1 tq m.1 l1:=.inl G7.out.1;have s2:qp w1 g2 lg m.2 l2:=.inl G7.out.2;have d1:qp w1.drew g1 tq m.1 l1:=.inl G7.out.1;have d2:qp w1.drew g2 lg m.2 l2:=.inl G7.out.2
     go_region_held3 (λw'=>w'.cell? ⟨w.heap.size,1,none⟩=some (.string ns)/\w'.cell? ⟨w.heap.size,2,none⟩=some (.string nl)/\w'.cell? ⟨bm,0,none⟩=some (.map (some g1))/\w'.cell? ⟨bm,1,none⟩=some (.map (some g2))/\qp w' g1 tq m.1 l1/\qp w' g2 lg m.2 l2) (go_keep) (fail)
     have f1:iI (qQ (qQ w1.drew g1 (ug tq l1)) g2 (ug lg l2)) g1 g2 (l1,l2):=⟨d1.set.Rz _ dD,(o4 _ d2).set⟩;have f2:Kept (λb=>b=g1\/b=g2) w1 (qQ (qQ w1.drew g1 (ug tq l1)) g2 (ug lg l2)):=((Kept.refl _ w1).drew.trans (amZ (aak _ _ _))).trans (acS (aak _ _ _));have F1:=zH f1;have F2:=zH f2;clear f1 f2 u1 u2 k1 k2 k3 k4 o1 o2 o3 o4 s1 s2 d1 d2;go_wp2_with fail;go_meet
     case rel=>exact⟨by rw[E1.out];exact F1.out,F2.out⟩
    ·have e1:m1=(m.1,iK eqS s true m.2):=by rw[<-yY.out,if_neg (by simpa using hk),if_pos (by simpa using dm)]
     have E1:=zH e1;clear e1
     go_wp2_with (first
      | (at_mapUpdate;refine Xp rfl (.tmp 24) (.tmp 26) (.const (.bool true)) 115 rfl (et:=4) acd zK g2 m.2 rfl G7.out.2 s rfl true rfl ?_
         intro w2 h2a h2b h2c h2d)
      | fail)
     go_meet
     case rel=>exact⟨by rw[E1.out];exact⟨G7.out.1.keep (h2b g1 dD),h2a⟩,acS h2d⟩
    ·have e1:m1=m:=by rw[<-yY.out,if_neg (by simpa using hk),if_neg (by simpa using dm)]
     have E1:=zH e1;clear e1;go_wp2_with fail;go_meet
     case rel=>exact⟨by rw[E1.out];exact G7.out,Kept.refl _ _⟩
   case rest=>
    obtain⟨UH,GN⟩:=hcut;have HMC:=zH UH;have HKC:=zH GN;have TB:=bF HB.out GN (by rintro (e | e);exact am0 e;exact am1 e);clear q0 q1 q2 q3 q4 q5 a0 a1 UH;obtain⟨q0,q1,q2,q3,q4,q5⟩:=gG TB;clear TB q0 q1 q2 q3 q5;go_wp2_with fail
    go_loopw [30] (λsi wr=>∃i:Nat,i<=n/\si= .int .i64 i/\∃sy,Hid (kT ex m1=kT (ex.drop i) sy)/\iI wr g1 g2 sy/\Kept (λb=>b=g1\/b=g2) w1 wr)
     (λsi _=>n - (intOf si).toNat)
    case atStart=>exact⟨0,zO,rfl,_,zH rfl,HMC.out,HKC.out⟩
    case round=>
     obtain⟨i,hi,rfl,sy,HL,BX,eF⟩:=hrel;have aH:Below B w wr:=GH.trans (eF.below zO (by intro k hk e;omega));have Bv:=vJ.out.kept G7.out eF;have a2:=aO Bv.2;have Lm:=zH Bv;have zi:=zH BX;have Bz:=eF.size;clear Bv BX;by_cases aN:i<n
     ·obtain⟨b,off,ch,v0,v1,v2,v3,v4,v5,HX,kP,p0,p1,p2,p3,p4,p5,dO⟩:=h1.LU aH aN c
      have hd:decide (i<n)=true:=(by simp;omega);obtain⟨k0,n0,l0,s0,A0,m0,d0,A1,m1,d1,rfl,rfl,rfl,rfl,rfl,rfl⟩:=kP.shape;obtain⟨w5,pq,S5,VC,bg⟩:=af wr (.cells #[.int .i64 k0,.string n0,.string l0,.string s0,.slice A0 m0 d0,.slice A1 m1 d1] 26);have Jf:=kP.below (bg.mono zO);have RD:iI w5 g1 g2 sy:=⟨zi.out.1.below bg,zi.out.2.below bg⟩;have Dp:EZ w5 bm bw g1 g2:=⟨ae Lm.out.1 bg,ae Lm.out.2 bg⟩;have a5:=aO Dp.2;obtain⟨r0,r1,r2,r3,r4,r5⟩:=gG S5;have acU:=zH Jf;have VD:=zH RD;have acV:=zH Dp;clear S5 Jf RD Dp kP;go_wp2_with fail;refine (O0.out ch (qN HX) _ _ B sy acU.out hB1 hB2 dD acV.out VD.out).mono ?_;rintro e w2 ⟨rfl,nJ,dm⟩;go_wp2_with fail;go_roundw
      case rel=>exact⟨i+1,zO,by go_num,_,zH (by rw[HL.out,Oc _ HX.out]),nJ,(eF.trans (Kept.of_below bg)).trans dm⟩
      case measure=>simp[intOf];omega
     ·have hd:decide (i<n)=false:=by simp;omega
      have zU:ex.drop i=[]:=z14 (by have:=h1.len;omega);have HEX:Hid (kT ex m1=sy):=zH (by rw[HL.out,zU,kT]);clear zU;have pW:=zH eF;have TB:=bF HB.out eF (by rintro (e | e);exact am0 e;exact am1 e);clear q4;obtain⟨q0,q1,q2,q3,q4,q5⟩:=gG TB;clear TB q0 q1 q2 q3 q4;obtain⟨sy0,Xq⟩:=zE sy;rw[<-Xq] at zi HEX;have JU:=zi;clear Xq;go_wp2_with fail;clear zi Lm aH Bz HL
      go_loopw [41] (λsi wr=>∃i:Nat,i<=n'/\si= .int .i64 i/\∃sy,Hid (kT ar sy0=kT (ar.drop i) sy)/\iI wr g1 g2 sy/\Kept (λb=>b=g1\/b=g2) w1 wr)
       (λsi _=>n' - (intOf si).toNat)
      case atStart=>exact⟨0,zO,rfl,_,zH rfl,JU.out,pW.out⟩
      case round=>
       obtain⟨i,hi,rfl,sy,HL,BX,eF⟩:=hrel;have aH:Below B w wr:=GH.trans (eF.below zO (by intro k hk e;omega));have Bv:=vJ.out.kept G7.out eF;have a2:=aO Bv.2;have Lm:=zH Bv;have zi:=zH BX;have Bz:=eF.size;clear Bv BX;by_cases aN:i<n'
       ·obtain⟨b,off,ch,v0,v1,v2,v3,v4,v5,HX,kP,p0,p1,p2,p3,p4,p5,dO⟩:=h2.LU aH aN c'
        have hd:decide (i<n')=true:=(by simp;omega);obtain⟨k0,n0,l0,s0,A0,m0,d0,A1,m1,d1,rfl,rfl,rfl,rfl,rfl,rfl⟩:=kP.shape;obtain⟨w5,pq,S5,VC,bg⟩:=af wr (.cells #[.int .i64 k0,.string n0,.string l0,.string s0,.slice A0 m0 d0,.slice A1 m1 d1] 26);have Jf:=kP.below (bg.mono zO);have RD:iI w5 g1 g2 sy:=⟨zi.out.1.below bg,zi.out.2.below bg⟩;have Dp:EZ w5 bm bw g1 g2:=⟨ae Lm.out.1 bg,ae Lm.out.2 bg⟩;have a5:=aO Dp.2;obtain⟨r0,r1,r2,r3,r4,r5⟩:=gG S5;have acU:=zH Jf;have VD:=zH RD;have acV:=zH Dp;clear S5 Jf RD Dp kP;go_wp2_with fail;refine (HA0.out ch (qN HX) _ _ B sy acU.out hB1 hB2 dD acV.out VD.out).mono ?_;rintro e w2 ⟨rfl,nJ,dm⟩;go_wp2_with fail;go_roundw
        case rel=>exact⟨i+1,zO,by go_num,_,zH (by rw[HL.out,Oc _ HX.out]),nJ,(eF.trans (Kept.of_below bg)).trans dm⟩
        case measure=>simp[intOf];omega
       ·have hd:decide (i<n')=false:=by simp;omega
        have zU:ar.drop i=[]:=z14 (by have:=h2.len;omega);have HEY:Hid (kT ar sy0=sy):=zH (by rw[HL.out,zU,kT]);clear zU;go_wp2_with fail
        go_end0
        exact⟨rfl,by rw[HC.out,HEX.out,HEY.out];exact zi.out,(Kept.of_below ai).trans eF⟩
end Go.Proofs.YtgmnnegfndpakaaGreatDoor
