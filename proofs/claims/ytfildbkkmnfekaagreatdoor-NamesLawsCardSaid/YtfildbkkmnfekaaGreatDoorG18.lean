/- What gabaritref01.Check returns. Has, both. -/
import Derived.Test.YtfildbkkmnfekaaGreatDoorTogA
import Derived.Test.YtfildbkkmnfekaaGreatDoorG10
import Derived.Test.YtfildbkkmnfekaaGreatDoorG16
import Derived.Test.YtfildbkkmnfekaaGreatDoorCntA
import Derived.Test.YtfildbkkmnfekaaGreatDoorG11
import Derived.WalkKit
import Derived.WalkSpells
import Derived.WalkLawsBesides
import Derived.BigGuardPart
import Derived.Lib.Hide
import Derived.Deep.QuietTactic
import Derived.BigQuiet
import Derived.StillTailTactics
import Derived.Deep.DeepCutAuto
import Derived.Deep.CutBlock
import Derived.Laws.EntriesVeiled
namespace Go.Proofs.YtfildbkkmnfekaaGreatDoor
open Go.RowKit

/-- What gabaritref01.Check returns. -/
def chkR (c : Cls) : Int := if 100 < countC 10 c then 3 else if formC c then 0 else 2
theorem count_ten (c : Cls) (cs : List Value) (w : World) (F : Nat → Prop) (h : RepC w F c cs) :
    Calls Tryz.prog 53 #[.agg cs.toArray, .int .i64 10] w fun e w' => e = .returned (.int .i64 (countC 10 c)) ∧ Below w.heap.size w w' := count_any 10 c cs w F h (by omega)
set_option maxHeartbeats 1000000 in
set_option maxRecDepth 100000 in
theorem refcheck_any (c : Cls) (cs : List Value) (w : World) (F : Nat → Prop) (hr : RepC w F c cs) :
    Calls Tryz.prog 16 #[.agg cs.toArray] w fun e w' => e = .returned (.int .i64 (chkR c)) ∧ Below w.heap.size w w' := by
  obtain ⟨N, hN⟩ : ∃ N, countC 10 c = N := ⟨_, rfl⟩
  obtain ⟨v, hv⟩ : ∃ v, formC c = v := ⟨_, rfl⟩
  have HR : Hid (chkR c = if 100 < N then 3 else if v then 0 else 2) := Lib.hid (by unfold chkR; rw [hN, hv])
  have c53 := fun w F h => count_ten c cs w F h
  have c54 := fun w F h => formed_any c cs w F h
  rw [hN] at c53
  rw [hv] at c54
  have C53 := Lib.hid c53; have C54 := Lib.hid c54
  clear c53 c54 hN hv
  obtain ⟨k, ns, nl, s, ex, ar⟩ := c
  obtain ⟨A, n, c, A', n', c', rfl, -, -, -, -⟩ := hr.here.form
  obtain ⟨w1, hw1, hblk, hsz, hb1⟩ := alloc_facts w (.cells #[.int .i64 k, .string ns, .string nl, .string s, .slice A n c, .slice A' n' c'] 28)
  have HR1 := Lib.hid (hr.here.below hb1)
  obtain ⟨q0, q1, q2, q3, q4, q5⟩ := blk6 hblk
  have HB := Lib.hid hblk
  clear hblk hr
  go_enter Tryz.func16, Tryz.ntmps16
  go_wp2_with fail
  refine (C53.out w1 _ HR1.out).mono ?_
  rintro e w2 ⟨rfl, hb2⟩
  clear q0 q1 q2 q3 q4 q5
  obtain ⟨q0, q1, q2, q3, q4, q5⟩ := blk6 (hp_below HB.out hb2)
  by_cases h1 : 100 < N
  · have hd : decide (100 < (N : Int)) = true := by simp; omega
    go_wp2_with fail
    go_ret
    exact ⟨ret_int (by rw [HR.out, if_pos h1]), hb1.seq hb2⟩
  · have hd : decide (100 < (N : Int)) = false := by simp; omega
    go_wp2_with fail
    refine (C54.out w2 _ (HR1.out.below (hb2.mono (by omega)))).mono ?_
    rintro e w3 ⟨rfl, hb3⟩
    cases v
    all_goals
      go_wp2_with fail
      go_ret
      exact ⟨ret_int (by rw [HR.out, if_neg h1]; rfl), hb1.seq (hb2.seq hb3)⟩
end Go.Proofs.YtfildbkkmnfekaaGreatDoor
namespace Go.Proofs.YtfildbkkmnfekaaGreatDoor
open Go.RowKit

/-- A class's cells, without opening the class. -/
theorem RepC.cells {w : World} {F : Nat → Prop} {c : Cls} {cs : List Value} (h : RepC w F c cs) :
    ∃ k ns nl s A n c0 A' n' c0', cs = [.int .i64 k, .string ns, .string nl, .string s, .slice A n c0, .slice A' n' c0'] := by
  obtain ⟨k, ns, nl, s, ex, ar⟩ := c
  obtain ⟨A, n, c, A', n', c', rfl, _⟩ := h.form
  exact ⟨_, _, _, _, _, _, _, _, _, _, rfl⟩
theorem bcell {W w1 : World} (hb : Below W.heap.size W w1) : (∀ b o, b < W.heap.size → w1.cell? ⟨b, o, none⟩ = W.cell? ⟨b, o, none⟩) ∧ (∀ b o, b < W.heap.size → w1.frozen? ⟨b, o, none⟩ = W.frozen? ⟨b, o, none⟩) :=
  ⟨fun b o h => hb.cell (p := ⟨b, o, none⟩) h, fun b o h => hb.frozen (p := ⟨b, o, none⟩) h⟩
theorem frz6 {w : World} {g : Nat} {t : TypeId} {v0 v1 v2 v3 v4 v5 : Value} (h : w.heap[g]? = some (.cells #[v0, v1, v2, v3, v4, v5] t)) :
    w.frozen? ⟨g, 0, none⟩ = false ∧ w.frozen? ⟨g, 1, none⟩ = false ∧ w.frozen? ⟨g, 2, none⟩ = false ∧ w.frozen? ⟨g, 3, none⟩ = false ∧ w.frozen? ⟨g, 4, none⟩ = false ∧ w.frozen? ⟨g, 5, none⟩ = false :=
  ⟨frozen_of_row w g 0 _ _ h, frozen_of_row w g 1 _ _ h, frozen_of_row w g 2 _ _ h, frozen_of_row w g 3 _ _ h, frozen_of_row w g 4 _ _ h, frozen_of_row w g 5 _ _ h⟩
/-- Storing a whole class into a block. -/
theorem set6_facts {w : World} {g : Nat} {t : TypeId} {u0 u1 u2 u3 u4 u5 : Value} (v0 v1 v2 v3 v4 v5 : Value) (h : w.heap[g]? = some (.cells #[u0, u1, u2, u3, u4, u5] t)) :
    ∃ wf, (((((w.setCell ⟨g, 0, none⟩ v0).setCell ⟨g, 1, none⟩ v1).setCell ⟨g, 2, none⟩ v2).setCell ⟨g, 3, none⟩ v3).setCell ⟨g, 4, none⟩ v4).setCell ⟨g, 5, none⟩ v5 = wf ∧
      wf.heap[g]? = some (.cells #[v0, v1, v2, v3, v4, v5] t) ∧ (∀ {B : Nat} {a : World}, Below B a w → B ≤ g → Below B a wf) ∧ (∀ b, b ≠ g → wf.heap[b]? = w.heap[b]?) ∧ wf.heap.size = w.heap.size :=
  ⟨_, rfl, set6_heap v0 v1 v2 v3 v4 v5 h, fun hb hg => set6_below hb hg _ _ _ _ _ _, fun b hb => by
    rw [Below.heap_setCell _ _ _ _ hb, Below.heap_setCell _ _ _ _ hb, Below.heap_setCell _ _ _ _ hb, Below.heap_setCell _ _ _ _ hb, Below.heap_setCell _ _ _ _ hb, Below.heap_setCell _ _ _ _ hb], by simp [World.setCell]⟩
theorem refcheck_val {v : Int} (c : Cls) (cs : List Value) (w : World) (F : Nat → Prop) (hr : RepC w F c cs) (hv : chkR c = v) :
    Calls Tryz.prog 16 #[.agg cs.toArray] w fun e w' => e = .returned (.int .i64 v) ∧ Below w.heap.size w w' := by subst hv; exact refcheck_any c cs w F hr
theorem check_val {v : Int} (c : Cls) (cs : List Value) (w : World) (F : Nat → Prop) (hr : RepC w F c cs) (hv : chkN c = v) :
    Calls Tryz.prog 15 #[.agg cs.toArray] w fun e w' => e = .returned (.int .i64 v) ∧ Below w.heap.size w w' := by subst hv; exact check_any c cs w F hr
theorem has_val {v : Bool} (a b : ByteArray) (c : Cls) (cs : List Value) (w : World) (F : Nat → Prop) (h : RepC w F c cs) (hv : hasC c a b = v) :
    Calls Tryz.prog 46 #[.agg cs.toArray, .agg #[.string a, .string b]] w fun e w' => e = .returned (.bool v) ∧ Below w.heap.size w w' := by
  subst hv; exact has_any a b c cs w F h
theorem valid_val {v : Bool} (a b : ByteArray) (w : World) (hv : validB a b = v) :
    Calls Tryz.prog 51 #[.agg #[.string a, .string b]] w fun e w' => e = .returned (.bool v) ∧ Below w.heap.size w w' := by subst hv; exact valid_any a b w
theorem validr_val {v : Bool} (a b : ByteArray) (w : World) (hv : validB a b = v) :
    Calls Tryz.prog 12 #[.agg #[.string a, .string b]] w fun e w' => e = .returned (.bool v) ∧ Below w.heap.size w w' := by subst hv; exact valid_ref a b w
/-- What two Has return. -/
def hasRes (e : Int) (v i : Bool) : Bool × Int := if e = 0 then (if v then (i, 0) else (false, 2)) else (false, e)
set_option maxHeartbeats 1000000 in
set_option maxRecDepth 100000 in
theorem refHas_any (a b : ByteArray) (c : Cls) (cs : List Value) (w : World) (F : Nat → Prop) (hr : RepC w F c cs) :
    Calls Tryz.prog 14 #[.agg cs.toArray, .agg #[.string a, .string b]] w fun e w' => e = .returned (.tuple #[.bool (hasRes (chkR c) (validB a b) (inC c a b)).1, .int .i64 (hasRes (chkR c) (validB a b) (inC c a b)).2]) ∧ Below w.heap.size w w' := by
  obtain ⟨ec, hec⟩ : ∃ v, chkR c = v := ⟨_, rfl⟩
  obtain ⟨vv, hvv⟩ : ∃ v, validB a b = v := ⟨_, rfl⟩
  obtain ⟨iv, hiv⟩ : ∃ v, inC c a b = v := ⟨_, rfl⟩
  rw [hec, hvv, hiv]
  have HEC := Lib.hid hec; have HVV := Lib.hid hvv; have HIV := Lib.hid hiv
  clear hec hvv hiv
  have hr' := hr.here
  obtain ⟨k, ns, nl, s, A, n, c0, A', n', c0', rfl⟩ := hr.cells
  obtain ⟨w1, hw1, S1, S2, hsz, hb1⟩ := alloc2_facts w (.cells #[.int .i64 k, .string ns, .string nl, .string s, .slice A n c0, .slice A' n' c0'] 28) (.cells #[.string a, .string b] 24)
  have HR := Lib.hid (hr'.below hb1)
  obtain ⟨p0, p1, p2, p3, p4, p5⟩ := blk6 S1
  obtain ⟨r0, r1⟩ := blk2 S2
  have hsz0 : w.heap.size < w1.heap.size := by omega
  clear S1 S2 hr hr'
  by_cases he : ec = 0
  · subst he
    have hcc : ((0 : Int) != 0) = false := rfl
    cases vv
    all_goals
      go_enter Tryz.func14, Tryz.ntmps14
      go_wp2_with fail
      refine (refcheck_val c _ w1 _ HR.out HEC.out).mono ?_
      rintro e w2 ⟨rfl, hb2⟩
      obtain ⟨hc2, hf2⟩ := bcell hb2
      go_wp2_with fail
      refine (validr_val a b w2 HVV.out).mono ?_
      rintro e w3 ⟨rfl, hb3⟩
      obtain ⟨hc3, hf3⟩ := bcell hb3
      have hsz2 := hb2.size
      have hz3 : w.heap.size < w2.heap.size := by omega
      have hz4 : w.heap.size + 1 < w2.heap.size := by omega
      go_wp2_with fail
    · go_ret2
      exact ⟨rfl, hb1.seq (hb2.seq hb3)⟩
    · refine (in_val a b c _ w3 _ ((HR.out.below (hb2.mono (by omega))).below (hb3.mono (by omega))) HIV.out).mono ?_
      rintro e w4 ⟨rfl, hb4⟩
      go_wp2_with fail
      go_ret2
      exact ⟨rfl, hb1.seq (hb2.seq (hb3.seq hb4))⟩
  · have hcc : (ec != 0) = true := by simpa using he
    have HE : Hid (hasRes ec vv iv = (false, ec)) := Lib.hid (by unfold hasRes; rw [if_neg he])
    go_enter Tryz.func14, Tryz.ntmps14
    go_wp2_with fail
    refine (refcheck_val c _ w1 _ HR.out HEC.out).mono ?_
    rintro e w2 ⟨rfl, hb2⟩
    clear he
    go_wp2_with fail
    go_ret2
    exact ⟨by rw [HE.out]; rfl, hb1.seq hb2⟩
set_option maxHeartbeats 1000000 in
set_option maxRecDepth 100000 in
theorem Has_any (a b : ByteArray) (c : Cls) (cs : List Value) (w : World) (F : Nat → Prop) (hr : RepC w F c cs) :
    Calls Tryz.prog 13 #[.agg cs.toArray, .agg #[.string a, .string b]] w fun e w' => e = .returned (.tuple #[.bool (hasRes (chkN c) (validB a b) (hasC c a b)).1, .int .i64 (hasRes (chkN c) (validB a b) (hasC c a b)).2]) ∧ Below w.heap.size w w' := by
  obtain ⟨ec, hec⟩ : ∃ v, chkN c = v := ⟨_, rfl⟩
  obtain ⟨vv, hvv⟩ : ∃ v, validB a b = v := ⟨_, rfl⟩
  obtain ⟨iv, hiv⟩ : ∃ v, hasC c a b = v := ⟨_, rfl⟩
  rw [hec, hvv, hiv]
  have HEC := Lib.hid hec; have HVV := Lib.hid hvv; have HIV := Lib.hid hiv
  clear hec hvv hiv
  have hr' := hr.here
  obtain ⟨k, ns, nl, s, A, n, c0, A', n', c0', rfl⟩ := hr.cells
  obtain ⟨w1, hw1, S1, S2, hsz, hb1⟩ := alloc2_facts w (.cells #[.int .i64 k, .string ns, .string nl, .string s, .slice A n c0, .slice A' n' c0'] 28) (.cells #[.string a, .string b] 24)
  have HR := Lib.hid (hr'.below hb1)
  obtain ⟨p0, p1, p2, p3, p4, p5⟩ := blk6 S1
  obtain ⟨r0, r1⟩ := blk2 S2
  have hsz0 : w.heap.size < w1.heap.size := by omega
  clear S1 S2 hr hr'
  by_cases he : ec = 0
  · subst he
    have hcc : ((0 : Int) != 0) = false := rfl
    cases vv
    all_goals
      go_enter Tryz.func13, Tryz.ntmps13
      go_wp2_with fail
      refine (check_val c _ w1 _ HR.out HEC.out).mono ?_
      rintro e w2 ⟨rfl, hb2⟩
      obtain ⟨hc2, hf2⟩ := bcell hb2
      go_wp2_with fail
      refine (valid_val a b w2 HVV.out).mono ?_
      rintro e w3 ⟨rfl, hb3⟩
      obtain ⟨hc3, hf3⟩ := bcell hb3
      have hsz2 := hb2.size
      have hz3 : w.heap.size < w2.heap.size := by omega
      have hz4 : w.heap.size + 1 < w2.heap.size := by omega
      go_wp2_with fail
    · go_ret2
      exact ⟨rfl, hb1.seq (hb2.seq hb3)⟩
    · refine (has_val a b c _ w3 _ ((HR.out.below (hb2.mono (by omega))).below (hb3.mono (by omega))) HIV.out).mono ?_
      rintro e w4 ⟨rfl, hb4⟩
      go_wp2_with fail
      go_ret2
      exact ⟨rfl, hb1.seq (hb2.seq (hb3.seq hb4))⟩
  · have hcc : (ec != 0) = true := by simpa using he
    have HE : Hid (hasRes ec vv iv = (false, ec)) := Lib.hid (by unfold hasRes; rw [if_neg he])
    go_enter Tryz.func13, Tryz.ntmps13
    go_wp2_with fail
    refine (check_val c _ w1 _ HR.out HEC.out).mono ?_
    rintro e w2 ⟨rfl, hb2⟩
    clear he
    go_wp2_with fail
    go_ret2
    exact ⟨by rw [HE.out]; rfl, hb1.seq hb2⟩
end Go.Proofs.YtfildbkkmnfekaaGreatDoor
