/- The orders of strings and names; Less, compare. -/
import Derived.Test.YtfildbkkmnfekaaGreatDoorRowA
import Derived.Test.YtfildbkkmnfekaaGreatDoorShelf
import Derived.WalkKit
import Derived.Sort.Walk0
import Derived.WalkSpells
import Derived.WalkLawsBesides
import Derived.BigGuardPart
import Derived.Lib.Hide
import Derived.Deep.QuietTactic
import Derived.BigQuiet
import Derived.StillTailTactics
import Derived.Deep.DeepCutAuto
import Derived.Deep.CutBlock
import Derived.Laws.EntriesVeiled
namespace Go.Proofs.YtfildbkkmnfekaaGreatDoor
open Go.RowKit

/-- The order of strings and of names. -/
def ltS (x y : ByteArray) : Bool := decide (x.data.toList < y.data.toList)
def ltN (x y : Nm) : Bool := ltS x.1 y.1 || (eqS x.1 y.1 && ltS x.2 y.2)
theorem bytesLess_ltS (x y : ByteArray) : Op.bytesLess x.toList y.toList = ltS x y := by
  rw [bytesLess_eq, Lib.toList_data, Lib.toList_data]; rfl
theorem cmp_list : ∀ (a b : List UInt8), (Lib.compareBytes a b < 0 ↔ a < b) ∧ (Lib.compareBytes a b = 0 ↔ a = b) ∧ -1 ≤ Lib.compareBytes a b ∧ Lib.compareBytes a b ≤ 1
  | [], [] => by simp [Lib.compareBytes]
  | [], _ :: _ => by simp [Lib.compareBytes]
  | _ :: _, [] => by simp [Lib.compareBytes]
  | x :: l1, y :: l2 => by
    have ih := cmp_list l1 l2
    rw [Lib.compareBytes]
    by_cases h : x < y
    · rw [if_pos h]
      refine ⟨⟨fun _ => List.cons_lt_cons_iff.2 (.inl h), fun _ => by omega⟩, ⟨fun e => by simp at e, fun e => ?_⟩, by omega, by omega⟩
      injection e with e1 e2
      rw [e1] at h
      exact absurd h (UInt8.lt_irrefl _)
    · rw [if_neg h]
      by_cases h2 : y < x
      · rw [if_pos h2]
        refine ⟨⟨fun e => by simp at e, fun e => ?_⟩, ⟨fun e => by simp at e, fun e => ?_⟩, by omega, by omega⟩
        · rcases List.cons_lt_cons_iff.1 e with e | ⟨e, _⟩
          · exact absurd e h
          · rw [e] at h2; exact absurd h2 (UInt8.lt_irrefl _)
        · injection e with e1 e2
          rw [e1] at h2
          exact absurd h2 (UInt8.lt_irrefl _)
      · rw [if_neg h2]
        have e : x = y := UInt8.le_antisymm (UInt8.not_lt.1 h2) (UInt8.not_lt.1 h)
        subst e
        refine ⟨⟨fun g => List.cons_lt_cons_iff.2 (.inr ⟨rfl, ih.1.1 g⟩), fun g => ?_⟩, ⟨fun g => by rw [ih.2.1.1 g], fun g => ?_⟩, ih.2.2.1, ih.2.2.2⟩
        · rcases List.cons_lt_cons_iff.1 g with g | ⟨_, g⟩
          · exact absurd g h
          · exact ih.1.2 g
        · injection g with _ g2
          exact ih.2.1.2 g2
/-- What strings.Compare says. -/
def cmpS (x y : ByteArray) : Int := Lib.compareBytes x.data.toList y.data.toList
theorem cmpS_lt (x y : ByteArray) : decide (cmpS x y < 0) = ltS x y := by
  unfold ltS; rw [decide_eq_decide]; exact (cmp_list _ _).1
theorem cmpS_zero (x y : ByteArray) : cmpS x y = 0 ↔ x = y := by
  unfold cmpS; rw [(cmp_list _ _).2.1]
  exact ⟨fun h => toList_eq (by rw [Lib.toList_data, Lib.toList_data, h]), fun h => by rw [h]⟩
theorem cmpS_bd (x y : ByteArray) : -1 ≤ cmpS x y ∧ cmpS x y ≤ 1 := (cmp_list _ _).2.2
def cmpN (x y : Nm) : Int := if cmpS x.1 y.1 ≠ 0 then cmpS x.1 y.1 else cmpS x.2 y.2
theorem cmpN_lt (x y : Nm) : decide (cmpN x y < 0) = ltN x y := by
  unfold cmpN ltN
  by_cases h : cmpS x.1 y.1 = 0
  · have e := (cmpS_zero _ _).1 h
    have e2 : ltS x.1 y.1 = false := by rw [← cmpS_lt, h]; rfl
    rw [if_neg (by simpa using h), e2, eqS_iff.2 e, cmpS_lt]
    simp
  · have e : eqS x.1 y.1 = false := by
      cases he : eqS x.1 y.1
      · rfl
      · exact absurd ((cmpS_zero _ _).2 (eqS_iff.1 he)) h
    rw [if_pos h, e, cmpS_lt]
    simp
theorem cmpN_bd (x y : Nm) : -1 ≤ cmpN x y ∧ cmpN x y ≤ 1 := by
  unfold cmpN; split
  · exact cmpS_bd _ _
  · exact cmpS_bd _ _

set_option maxHeartbeats 1000000 in
set_option maxRecDepth 100000 in
theorem compare_any (a b c d : ByteArray) (w : World) :
    Calls Tryz.prog 55 #[.agg #[.string a, .string b], .agg #[.string c, .string d]] w fun e w' => e = .returned (.int .i64 (cmpN (a, b) (c, d))) ∧ Below w.heap.size w w' := by
  obtain ⟨w1, hw1, hb1, hb2, hsz, hbw⟩ := alloc2_facts w (.cells #[.string a, .string b] 24) (.cells #[.string c, .string d] 24)
  obtain ⟨q0, q1⟩ := blk2 hb1
  obtain ⟨r0, r1⟩ := blk2 hb2
  have hbd := cmpS_bd a c
  obtain ⟨x, hx⟩ : ∃ x, cmpS a c = x := ⟨_, rfl⟩
  have HS : ∀ u v W, Hid (Calls Tryz.prog 84 #[.string u, .string v] W fun e w' => e = .returned (.int .i64 (cmpS u v)) ∧ w' = W) := fun u v W => Tryz.strings_Compare u v W
  have HR : Hid (cmpN (a, b) (c, d) = if x ≠ 0 then x else cmpS b d) := by unfold cmpN; rw [hx]; exact rfl
  clear hb1 hb2
  go_enter Tryz.func55, Tryz.ntmps55
  go_wp2_with fail
  refine (HS a c _).out.mono ?_
  rintro e w' ⟨rfl, rfl⟩
  rw [hx] at hbd ⊢
  clear hx
  by_cases h0 : x = 0
  · subst h0
    go_wp2_with fail
    refine (HS b d _).out.mono ?_
    rintro e w' ⟨rfl, rfl⟩
    go_wp2_with fail
    go_ret
    exact ⟨ret_int (by rw [HR.out]; simp), hbw⟩
  · have hne : (x != 0) = true := by simpa using h0
    have hne2 : (x == 0) = false := by simpa using h0
    have H0 := Lib.hid h0
    clear h0
    go_wp2_with fail
    go_ret
    exact ⟨ret_int (by rw [HR.out, if_pos H0.out]), hbw⟩

set_option maxHeartbeats 1000000 in
set_option maxRecDepth 100000 in
theorem less_any (a b c d : ByteArray) (w : World) :
    Calls Tryz.prog 17 #[.agg #[.string a, .string b], .agg #[.string c, .string d]] w fun e w' => e = .returned (.bool (ltN (a, b) (c, d))) ∧ Below w.heap.size w w' := by
  obtain ⟨w1, hw1, hb1, hb2, hsz, hbw⟩ := alloc2_facts w (.cells #[.string a, .string b] 24) (.cells #[.string c, .string d] 24)
  obtain ⟨q0, q1⟩ := blk2 hb1
  obtain ⟨r0, r1⟩ := blk2 hb2
  have HL := Lib.hid (cmpN_lt (a, b) (c, d))
  clear hb1 hb2
  go_enter Tryz.func17, Tryz.ntmps17
  go_wp2_with fail
  refine (compare_any a b c d _).mono ?_
  rintro e w2 ⟨rfl, hb2⟩
  go_wp2_with fail
  go_ret
  exact ⟨ret_bool HL.out, hbw.seq hb2⟩

set_option maxHeartbeats 1000000 in
set_option maxRecDepth 100000 in
theorem lessR_any (a b c d : ByteArray) (w : World) :
    Calls Tryz.prog 18 #[.agg #[.string a, .string b], .agg #[.string c, .string d]] w fun e w' => e = .returned (.bool (ltN (a, b) (c, d))) ∧ Below w.heap.size w w' := by
  obtain ⟨w1, hw1, hb1, hb2, hsz, hbw⟩ := alloc2_facts w (.cells #[.string a, .string b] 24) (.cells #[.string c, .string d] 24)
  obtain ⟨q0, q1⟩ := blk2 hb1
  obtain ⟨r0, r1⟩ := blk2 hb2
  obtain ⟨v1, h1⟩ : ∃ v, Op.bytesLess a.toList c.toList = v := ⟨_, rfl⟩
  obtain ⟨v2, h2⟩ : ∃ v, (a.toList == c.toList) = v := ⟨_, rfl⟩
  obtain ⟨v3, h3⟩ : ∃ v, Op.bytesLess b.toList d.toList = v := ⟨_, rfl⟩
  have HR : Hid (ltN (a, b) (c, d) = (v1 || (v2 && v3))) := by unfold ltN eqS; rw [← bytesLess_ltS, ← bytesLess_ltS, h1, h2, h3]; exact rfl
  clear hb1 hb2
  cases v1
  · cases v2
    · go_enter Tryz.func18, Tryz.ntmps18
      go_wp2_with fail
      go_ret
      exact ⟨ret_bool (by rw [HR.out]; rfl), hbw⟩
    · go_enter Tryz.func18, Tryz.ntmps18
      go_wp2_with fail
      go_ret
      exact ⟨ret_bool (by rw [HR.out]; cases v3 <;> rfl), hbw⟩
  · go_enter Tryz.func18, Tryz.ntmps18
    go_wp2_with fail
    go_ret
    exact ⟨ret_bool (by rw [HR.out]; rfl), hbw⟩
end Go.Proofs.YtfildbkkmnfekaaGreatDoor
