/- What is mentioned: the program. -/
import Derived.Test.YtfildbkkmnfekaaGreatDoorG22
import Derived.WalkKit
import Derived.Maps.Own
import Derived.Deep.RegionHeld3
import Derived.Deep.DeepFit
import Derived.WalkSpells
import Derived.WalkLawsBesides
import Derived.BigGuardPart
import Derived.Lib.Hide
import Derived.Deep.QuietTactic
import Derived.BigQuiet
import Derived.StillTailTactics
import Derived.Deep.DeepCutAuto
import Derived.Deep.CutBlock
import Derived.Laws.EntriesVeiled
namespace Go.Proofs.YtfildbkkmnfekaaGreatDoor
open Go.RowKit

/-- m[k] = v, at its place in a region. -/
theorem wpList_put {κ : Type} {P : Program} {ops : Array Oper} {rest : List Oper} {o : Oper} {a : Act} {Q : Exit → Act → World → Prop} {w : World} (hgd : o.guard = none) (m x v : Operand) (mt : TypeId) (hop : o.op = .mapUpdate mt m x v)
    {kt et : TypeId} {enc : κ → Value} {eq : κ → κ → Bool} (K : KeyTy P kt enc eq) (hm : P.underlying mt = some (.map kt et)) (g : Nat) (l : List (κ × Bool)) (hs : a.eval m = .map (some g)) (h : MapIs w g enc l)
    (k : κ) (hk : a.eval x = enc k) (b : Bool) (hv : a.eval v = .bool b)
    (hK : ∀ w', MapIs w' g enc (putM eq k b l) → (∀ b, b ≠ g → w'.heap[b]? = w.heap[b]?) → w'.heap.size = w.heap.size → Kept (· = g) w w' → wpList P ops Q rest (a.put o.dst undef) w') : wpList P ops Q (o :: rest) a w := by
  refine wpList_plain hgd fun K' hK' => ?_
  obtain ⟨w', hw, h1, h2, h3, h4⟩ := h.put (l' := putM eq k b l)
  have hrun := run_put K hm h k b
  rw [hw] at hrun
  unfold Oper.wp
  simp [execOp, hop, hs, hk, hv, hrun, Result.andThen]
  exact hK' _ _ (hK w' h1 h2 h3 h4)
/-- A block that is set anew, whole. -/
def setO (w : World) (g : Nat) (o : Obj) : World := { w with heap := w.heap.setIfInBounds g o }
theorem setO_cell (w : World) (g : Nat) (o : Obj) {b : Nat} (i : Nat) (h : b ≠ g) : (setO w g o).cell? ⟨b, i, none⟩ = w.cell? ⟨b, i, none⟩ :=
  World.cell?_of_block (w := w) (a := ⟨b, i, none⟩) (by simp [setO, Ne.symm h])
theorem putM_idem {κ : Type} {eq : κ → κ → Bool} (hr : ∀ k, eq k k = true) (k : κ) (v : Bool) (l : List (κ × Bool)) : putM eq k v (putM eq k v l) = putM eq k v l := by
  induction l with
  | nil => rw [putM, putM, if_pos (hr k)]
  | cons p l ih =>
    obtain ⟨k', v'⟩ := p
    rw [putM]
    split
    · rw [putM, if_pos (hr k)]
    · rename_i h; rw [putM, if_neg h, ih]
/-- The map as it was, or with the entry that is put. -/
def MapOr {κ : Type} (w : World) (g : Nat) (enc : κ → Value) (l l' : List (κ × Bool)) : Prop := MapIs w g enc l ∨ MapIs w g enc l'
theorem MapOr.set {κ : Type} {w : World} {g : Nat} {enc : κ → Value} {l l' : List (κ × Bool)} (h : MapOr w g enc l l') : MapIs (setO w g (mObj enc l')) g enc l' := by
  have hlt : g < w.heap.size := by rcases h with h | h <;> exact h.lt
  unfold MapIs setO; simp [hlt]
theorem MapIs.set_ne {κ : Type} {w : World} {g g' : Nat} {enc : κ → Value} {l : List (κ × Bool)} (h : MapIs w g enc l) (o : Obj) (hne : g ≠ g') : MapIs (setO w g' o) g enc l := by
  unfold MapIs setO at *; simp [Ne.symm hne]; exact h
theorem MapOr.put {κ : Type} {P : Program} {kt mt et : TypeId} {enc : κ → Value} {eq : κ → κ → Bool} (K : KeyTy P kt enc eq) (hr : ∀ k, eq k k = true) (hm : P.underlying mt = some (.map kt et)) {W : World} {g : Nat} {l : List (κ × Bool)} {k : κ} {v : Bool} (h : MapOr W g enc l (putM eq k v l)) :
    (Instr.mapUpdate mt (.map (some g)) (enc k) (.bool v)).run P W = .ok () (setO W g (mObj enc (putM eq k v l))) := by
  rcases h with h | h
  · exact run_put K hm h k v
  · have := run_put K hm h k v
    rw [putM_idem hr] at this; exact this
theorem setO_kept (w : World) (g : Nat) (o : Obj) : Kept (· = g) w (setO w g o) := ⟨rfl, rfl, rfl, by simp [setO], fun b _ hb => by simp [setO, Ne.symm hb]⟩
theorem eqN_refl (x : Nm) : eqN x x = true := by unfold eqN; rw [Bool.and_eq_true, eqS_iff, eqS_iff]; exact ⟨rfl, rfl⟩
theorem eqS_refl (x : ByteArray) : eqS x x = true := eqS_iff.2 rfl
abbrev Ment := List (Nm × Bool) × List (ByteArray × Bool)
mutual
def addPC : Cls → Ment → Ment
  | .mk k ns nl s ex ar, m => addPL ar (addPL ex (if k = 1 then (putM eqN (ns, nl) true m.1, putM eqS ns true m.2) else if k = 2 then (m.1, putM eqS s true m.2) else m))
def addPL : List Cls → Ment → Ment
  | [], m => m
  | c :: l, m => addPL l (addPC c m)
end
theorem addPL_step {l : List Cls} {i : Nat} {ch : Cls} (m : Ment) (h : l[i]? = some ch) : addPL (l.drop i) m = addPL (l.drop (i + 1)) (addPC ch m) := by
  obtain ⟨hi, hc⟩ := List.getElem?_eq_some_iff.1 h
  rw [List.drop_eq_getElem_cons hi, hc, addPL]
/-- The two maps, the mentions behind the closure's first pointer. -/
def MapsAt (w : World) (g1 g2 : Nat) (m : Ment) : Prop := MapIs w g1 nmE m.1 ∧ MapIs w g2 stE m.2
def CloAt (w : World) (bm bw g1 g2 : Nat) : Prop := w.heap[bm]? = some (.cells #[.map (some g1), .map (some g2)] 66) ∧ w.heap[bw]? = some (.cells #[.func (.func 74) #[] #[.pointer (some ⟨bm, 0, none⟩), .pointer (some ⟨bw, 0, none⟩)]] 86)
theorem CloAt.kept {w w' : World} {bm bw g1 g2 : Nat} {m : Ment} (h : CloAt w bm bw g1 g2) (hm : MapsAt w g1 g2 m) (hk : Kept (fun b => b = g1 ∨ b = g2) w w') : CloAt w' bm bw g1 g2 := by
  have n1 : bm ≠ g1 ∧ bm ≠ g2 ∧ bw ≠ g1 ∧ bw ≠ g2 := by
    refine ⟨?_, ?_, ?_, ?_⟩
    · intro e; have := h.1; rw [e, show w.heap[g1]? = _ from hm.1] at this; cases this
    · intro e; have := h.1; rw [e, show w.heap[g2]? = _ from hm.2] at this; cases this
    · intro e; have := h.2; rw [e, show w.heap[g1]? = _ from hm.1] at this; cases this
    · intro e; have := h.2; rw [e, show w.heap[g2]? = _ from hm.2] at this; cases this
  exact ⟨hp_kept h.1 hk (by intro e; rcases e with e | e; exact n1.1 e; exact n1.2.1 e), hp_kept h.2 hk (by intro e; rcases e with e | e; exact n1.2.2.1 e; exact n1.2.2.2 e)⟩
theorem cells_ne_map {κ : Type} {w : World} {b g : Nat} {cs : Array Value} {t : TypeId} {fr : Nat × Nat} {enc : κ → Value} {l : List (κ × Bool)} (h : w.heap[b]? = some (.cells cs t fr)) (hm : MapIs w g enc l) : b ≠ g := by
  intro e; rw [e, show w.heap[g]? = _ from hm] at h; cases h
theorem kept_or1 {g1 g2 : Nat} {w w' : World} (h : Kept (· = g1) w w') : Kept (fun b => b = g1 ∨ b = g2) w w' := ⟨h.os, h.tape, h.output, h.size, fun k hk hm => h.block k hk (fun e => hm (.inl e))⟩
theorem kept_or2 {g1 g2 : Nat} {w w' : World} (h : Kept (· = g2) w w') : Kept (fun b => b = g1 ∨ b = g2) w w' := ⟨h.os, h.tape, h.output, h.size, fun k hk hm => h.block k hk (fun e => hm (.inr e))⟩
theorem kept_drewN {M : Nat → Prop} {w w' : World} {n : Nat} (h : Kept M (w.drewN n) w') : Kept M w w' := ⟨h.os, h.tape, h.output, h.size, h.block⟩
set_option maxHeartbeats 4000000 in
set_option maxRecDepth 100000 in
theorem mentwalk_any (bm bw g1 g2 : Nat) (c : Cls) : ∀ (cs : List Value) (w : World) (B : Nat) (m : Ment), RepC w (· < B) c cs → B ≤ g1 → B ≤ g2 → g1 ≠ g2 → CloAt w bm bw g1 g2 → MapsAt w g1 g2 m →
    Calls Tryz.prog 74 #[.agg cs.toArray, .pointer (some ⟨bm, 0, none⟩), .pointer (some ⟨bw, 0, none⟩)] w fun e w' => e = .returned (.tuple #[]) ∧ MapsAt w' g1 g2 (addPC c m) ∧ Kept (fun b => b = g1 ∨ b = g2) w w' := by
  induction c using Cls.ind with
  | _ k ns nl s ex ar ihe iha =>
    intro cs w B m hr0 hB1 hB2 hne hclo hmp
    obtain ⟨A, n, c, A', n', c', rfl, hl, hl', h1, h2⟩ := hr0.form
    have HE0 := Lib.hid ihe; have HA0 := Lib.hid iha; clear ihe iha hr0
    obtain ⟨w1, hw1, hblk, hsz, hb1⟩ := alloc_facts w (.cells #[.int .i64 k, .string ns, .string nl, .string s, .slice A n c, .slice A' n' c'] 28)
    have hg1 := hmp.1.lt
    have hg2 := hmp.2.lt
    have hbB : Below B w w1 := hb1.mono (by omega)
    have hclo1 : CloAt w1 bm bw g1 g2 := ⟨hp_below hclo.1 hb1, hp_below hclo.2 hb1⟩
    have hmp1 : MapsAt w1 g1 g2 m := ⟨hmp.1.below hb1, hmp.2.below hb1⟩
    obtain ⟨q0, q1, q2, q3, q4, q5⟩ := blk6 hblk
    obtain ⟨a0, a1⟩ := blk2 hclo1.1
    obtain ⟨m1, hm1⟩ : ∃ m1, (if k = 1 then (putM eqN (ns, nl) true m.1, putM eqS ns true m.2) else if k = 2 then (m.1, putM eqS s true m.2) else m) = m1 := ⟨_, rfl⟩
    have HC : Hid (addPC (.mk k ns nl s ex ar) m = addPL ar (addPL ex m1)) := Lib.hid (by rw [addPC, hm1])
    have HM1 := Lib.hid hm1
    have HB := Lib.hid hblk; have HCL := Lib.hid hclo1; have HMP := Lib.hid hmp1
    have hne1 := cells_ne_map hblk hmp1.1
    have hne2 := cells_ne_map hblk hmp1.2
    clear hm1 hblk hclo hmp hclo1 hmp1
    go_enter Tryz.func74, Tryz.ntmps74
    go_upto_block 0 with fail
    have HW := Lib.hid hw1; clear hw1
    go_cut [] (fun wc => MapsAt wc g1 g2 m1 ∧ Kept (fun b => b = g1 ∨ b = g2) w1 wc)
    case first =>
      rcases (show (k == 1) = true ∨ ((k == 1) = false ∧ (k == 2) = true) ∨ ((k == 1) = false ∧ (k == 2) = false) by cases (k == 1) <;> cases (k == 2) <;> simp) with hk | ⟨hk, hk2⟩ | ⟨hk, hk2⟩
      · go_wp2_with fail
        obtain ⟨l1, hl1⟩ : ∃ l1, putM eqN (ns, nl) true m.1 = l1 := ⟨_, rfl⟩
        obtain ⟨l2, hl2⟩ : ∃ l2, putM eqS ns true m.2 = l2 := ⟨_, rfl⟩
        have e1 : m1 = (l1, l2) := by rw [← HM1.out, if_pos (by simpa using hk), hl1, hl2]
        have E1 := Lib.hid e1; clear e1
        have u1 : ∀ W, MapOr W g1 nmE m.1 l1 → (Instr.mapUpdate 64 (.map (some g1)) (.agg #[.string ns, .string nl]) (.bool true)).run Tryz.prog W = .ok () (setO W g1 (mObj nmE l1)) := by
          intro W h; rw [← hl1] at h ⊢; exact h.put (et := 4) keyNm eqN_refl (by kernel_rfl)
        have u2 : ∀ W, MapOr W g2 stE m.2 l2 → (Instr.mapUpdate 61 (.map (some g2)) (.string ns) (.bool true)).run Tryz.prog W = .ok () (setO W g2 (mObj stE l2)) := by
          intro W h; rw [← hl2] at h ⊢; exact h.put (et := 4) keyStr eqS_refl (by kernel_rfl)
        clear hl1 hl2
        have k1 : ∀ W i, (setO W g1 (mObj nmE l1)).cell? ⟨w.heap.size, i, none⟩ = W.cell? ⟨w.heap.size, i, none⟩ := fun W i => setO_cell W g1 _ i hne1
        have k2 : ∀ W i, (setO W g2 (mObj stE l2)).cell? ⟨w.heap.size, i, none⟩ = W.cell? ⟨w.heap.size, i, none⟩ := fun W i => setO_cell W g2 _ i hne2
        have nb1 := cells_ne_map HCL.out.1 HMP.out.1
        have nb2 := cells_ne_map HCL.out.1 HMP.out.2
        have k3 : ∀ W i, (setO W g1 (mObj nmE l1)).cell? ⟨bm, i, none⟩ = W.cell? ⟨bm, i, none⟩ := fun W i => setO_cell W g1 _ i nb1
        have k4 : ∀ W i, (setO W g2 (mObj stE l2)).cell? ⟨bm, i, none⟩ = W.cell? ⟨bm, i, none⟩ := fun W i => setO_cell W g2 _ i nb2
        have o1 : ∀ W, MapOr W g1 nmE m.1 l1 → MapOr (setO W g1 (mObj nmE l1)) g1 nmE m.1 l1 := fun W h => .inr h.set
        have o2 : ∀ W, MapOr W g2 stE m.2 l2 → MapOr (setO W g2 (mObj stE l2)) g2 stE m.2 l2 := fun W h => .inr h.set
        have o3 : ∀ W, MapOr W g1 nmE m.1 l1 → MapOr (setO W g2 (mObj stE l2)) g1 nmE m.1 l1 := fun W h => h.imp (fun h => h.set_ne _ hne) (fun h => h.set_ne _ hne)
        have o4 : ∀ W, MapOr W g2 stE m.2 l2 → MapOr (setO W g1 (mObj nmE l1)) g2 stE m.2 l2 := fun W h => h.imp (fun h => h.set_ne _ hne.symm) (fun h => h.set_ne _ hne.symm)
        have s1 : MapOr w1 g1 nmE m.1 l1 := .inl HMP.out.1
        have s2 : MapOr w1 g2 stE m.2 l2 := .inl HMP.out.2
        have d1 : MapOr w1.drew g1 nmE m.1 l1 := .inl HMP.out.1
        have d2 : MapOr w1.drew g2 stE m.2 l2 := .inl HMP.out.2
        go_region_held3 (fun w' => w'.cell? ⟨w.heap.size, 1, none⟩ = some (.string ns) ∧ w'.cell? ⟨w.heap.size, 2, none⟩ = some (.string nl) ∧ w'.cell? ⟨bm, 0, none⟩ = some (.map (some g1)) ∧ w'.cell? ⟨bm, 1, none⟩ = some (.map (some g2)) ∧ MapOr w' g1 nmE m.1 l1 ∧ MapOr w' g2 stE m.2 l2) (go_keep) (fail)
        have f1 : MapsAt (setO (setO w1.drew g1 (mObj nmE l1)) g2 (mObj stE l2)) g1 g2 (l1, l2) := ⟨d1.set.set_ne _ hne, (o4 _ d2).set⟩
        have f2 : Kept (fun b => b = g1 ∨ b = g2) w1 (setO (setO w1.drew g1 (mObj nmE l1)) g2 (mObj stE l2)) := ((Kept.refl _ w1).drew.trans (kept_or1 (setO_kept _ _ _))).trans (kept_or2 (setO_kept _ _ _))
        have F1 := Lib.hid f1; have F2 := Lib.hid f2
        clear f1 f2 u1 u2 k1 k2 k3 k4 o1 o2 o3 o4 s1 s2 d1 d2
        go_wp2_with fail
        go_meet
        case rel => exact ⟨by rw [E1.out]; exact F1.out, F2.out⟩
      · have e1 : m1 = (m.1, putM eqS s true m.2) := by rw [← HM1.out, if_neg (by simpa using hk), if_pos (by simpa using hk2)]
        have E1 := Lib.hid e1; clear e1
        go_wp2_with (first
          | (at_mapUpdate; refine wpList_put rfl (.tmp 24) (.tmp 26) (.const (.bool true)) 61 rfl (et := 4) keyStr (by kernel_rfl) g2 m.2 rfl HMP.out.2 s rfl true rfl ?_
             intro w2 h2a h2b h2c h2d)
          | fail)
        go_meet
        case rel => exact ⟨by rw [E1.out]; exact ⟨HMP.out.1.keep (h2b g1 hne), h2a⟩, kept_or2 h2d⟩
      · have e1 : m1 = m := by rw [← HM1.out, if_neg (by simpa using hk), if_neg (by simpa using hk2)]
        have E1 := Lib.hid e1; clear e1
        go_wp2_with fail
        go_meet
        case rel => exact ⟨by rw [E1.out]; exact HMP.out, Kept.refl _ _⟩
    case rest =>
      obtain ⟨hmc, hkc⟩ := hcut
      have HMC := Lib.hid hmc; have HKC := Lib.hid hkc
      have TB := hp_kept HB.out hkc (by rintro (e | e); exact hne1 e; exact hne2 e)
      clear q0 q1 q2 q3 q4 q5 a0 a1 hmc
      obtain ⟨q0, q1, q2, q3, q4, q5⟩ := blk6 TB
      clear TB q0 q1 q2 q3 q5
      go_wp2_with fail
      go_loopw [30] (fun si wr => ∃ i : Nat, i ≤ n ∧ si = .int .i64 i ∧ ∃ sy, Hid (addPL ex m1 = addPL (ex.drop i) sy) ∧ MapsAt wr g1 g2 sy ∧ Kept (fun b => b = g1 ∨ b = g2) w1 wr)
        (fun si _ => n - (intOf si).toNat)
      case atStart => exact ⟨0, by omega, rfl, _, Lib.hid rfl, HMC.out, HKC.out⟩
      case round =>
        obtain ⟨i, hi, rfl, sy, HL, hmp, hkr⟩ := hrel
        have hbw : Below B w wr := hbB.trans (hkr.below (by omega) (by intro k hk e; omega))
        have hclo := HCL.out.kept HMP.out hkr
        have a2 := blk1 hclo.2
        have HCLr := Lib.hid hclo
        have HMPr := Lib.hid hmp
        have hszr := hkr.size
        clear hclo hmp
        by_cases hlt : i < n
        · obtain ⟨b, off, ch, v0, v1, v2, v3, v4, v5, HX, hrc, p0, p1, p2, p3, p4, p5, hix⟩ := h1.roundB hbw hlt c
          have hd : decide (i < n) = true := by simp; omega
          obtain ⟨k0, n0, l0, s0, A0, m0, d0, A1, m1, d1, rfl, rfl, rfl, rfl, rfl, rfl⟩ := hrc.shape
          obtain ⟨w5, hw5, S5, hsz5, hb5⟩ := alloc_facts wr (.cells #[.int .i64 k0, .string n0, .string l0, .string s0, .slice A0 m0 d0, .slice A1 m1 d1] 28)
          have hrc5 := hrc.below (hb5.mono (by omega))
          have hmp5 : MapsAt w5 g1 g2 sy := ⟨HMPr.out.1.below hb5, HMPr.out.2.below hb5⟩
          have hclo5 : CloAt w5 bm bw g1 g2 := ⟨hp_below HCLr.out.1 hb5, hp_below HCLr.out.2 hb5⟩
          have a5 := blk1 hclo5.2
          obtain ⟨r0, r1, r2, r3, r4, r5⟩ := blk6 S5
          have HRC5 := Lib.hid hrc5; have HMP5 := Lib.hid hmp5; have HCL5 := Lib.hid hclo5
          clear S5 hrc5 hmp5 hclo5 hrc
          go_wp2_with fail
          refine (HE0.out ch (mem_of_hid HX) _ _ B sy HRC5.out hB1 hB2 hne HCL5.out HMP5.out).mono ?_
          rintro e w2 ⟨rfl, hm2, hk2⟩
          go_wp2_with fail
          go_roundw
          case rel => exact ⟨i + 1, by omega, by go_num, _, Lib.hid (by rw [HL.out, addPL_step _ HX.out]), hm2, (hkr.trans (Kept.of_below hb5)).trans hk2⟩
          case measure => simp [intOf]; omega
        · have hd : decide (i < n) = false := by simp; omega
          have hdn : ex.drop i = [] := List.drop_eq_nil_of_le (by have := h1.len; omega)
          have HEX : Hid (addPL ex m1 = sy) := Lib.hid (by rw [HL.out, hdn, addPL])
          clear hdn
          have HKR := Lib.hid hkr
          have TB := hp_kept HB.out hkr (by rintro (e | e); exact hne1 e; exact hne2 e)
          clear q4
          obtain ⟨q0, q1, q2, q3, q4, q5⟩ := blk6 TB
          clear TB q0 q1 q2 q3 q4
          obtain ⟨sy0, hsx⟩ : ∃ sy0, sy0 = sy := ⟨_, rfl⟩
          rw [← hsx] at HMPr HEX
          have HMX := HMPr
          clear hsx
          go_wp2_with fail
          clear HMPr HCLr hbw hszr HL
          go_loopw [41] (fun si wr => ∃ i : Nat, i ≤ n' ∧ si = .int .i64 i ∧ ∃ sy, Hid (addPL ar sy0 = addPL (ar.drop i) sy) ∧ MapsAt wr g1 g2 sy ∧ Kept (fun b => b = g1 ∨ b = g2) w1 wr)
            (fun si _ => n' - (intOf si).toNat)
          case atStart => exact ⟨0, by omega, rfl, _, Lib.hid rfl, HMX.out, HKR.out⟩
          case round =>
            obtain ⟨i, hi, rfl, sy, HL, hmp, hkr⟩ := hrel
            have hbw : Below B w wr := hbB.trans (hkr.below (by omega) (by intro k hk e; omega))
            have hclo := HCL.out.kept HMP.out hkr
            have a2 := blk1 hclo.2
            have HCLr := Lib.hid hclo
            have HMPr := Lib.hid hmp
            have hszr := hkr.size
            clear hclo hmp
            by_cases hlt : i < n'
            · obtain ⟨b, off, ch, v0, v1, v2, v3, v4, v5, HX, hrc, p0, p1, p2, p3, p4, p5, hix⟩ := h2.roundB hbw hlt c'
              have hd : decide (i < n') = true := by simp; omega
              obtain ⟨k0, n0, l0, s0, A0, m0, d0, A1, m1, d1, rfl, rfl, rfl, rfl, rfl, rfl⟩ := hrc.shape
              obtain ⟨w5, hw5, S5, hsz5, hb5⟩ := alloc_facts wr (.cells #[.int .i64 k0, .string n0, .string l0, .string s0, .slice A0 m0 d0, .slice A1 m1 d1] 28)
              have hrc5 := hrc.below (hb5.mono (by omega))
              have hmp5 : MapsAt w5 g1 g2 sy := ⟨HMPr.out.1.below hb5, HMPr.out.2.below hb5⟩
              have hclo5 : CloAt w5 bm bw g1 g2 := ⟨hp_below HCLr.out.1 hb5, hp_below HCLr.out.2 hb5⟩
              have a5 := blk1 hclo5.2
              obtain ⟨r0, r1, r2, r3, r4, r5⟩ := blk6 S5
              have HRC5 := Lib.hid hrc5; have HMP5 := Lib.hid hmp5; have HCL5 := Lib.hid hclo5
              clear S5 hrc5 hmp5 hclo5 hrc
              go_wp2_with fail
              refine (HA0.out ch (mem_of_hid HX) _ _ B sy HRC5.out hB1 hB2 hne HCL5.out HMP5.out).mono ?_
              rintro e w2 ⟨rfl, hm2, hk2⟩
              go_wp2_with fail
              go_roundw
              case rel => exact ⟨i + 1, by omega, by go_num, _, Lib.hid (by rw [HL.out, addPL_step _ HX.out]), hm2, (hkr.trans (Kept.of_below hb5)).trans hk2⟩
              case measure => simp [intOf]; omega
            · have hd : decide (i < n') = false := by simp; omega
              have hdn : ar.drop i = [] := List.drop_eq_nil_of_le (by have := h2.len; omega)
              have HEY : Hid (addPL ar sy0 = sy) := Lib.hid (by rw [HL.out, hdn, addPL])
              clear hdn
              go_wp2_with fail
              go_end0
              exact ⟨rfl, by rw [HC.out, HEX.out, HEY.out]; exact HMPr.out, (Kept.of_below hb1).trans hkr⟩
end Go.Proofs.YtfildbkkmnfekaaGreatDoor
