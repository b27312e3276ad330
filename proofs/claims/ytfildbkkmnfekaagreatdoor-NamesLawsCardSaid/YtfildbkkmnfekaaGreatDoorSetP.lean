/- great, same of equal results; depth and size. -/
import Derived.Test.YtfildbkkmnfekaaGreatDoorShwA
import Derived.WalkKit
import Derived.WalkSpells
import Derived.WalkLawsBesides
import Derived.BigGuardPart
import Derived.Lib.Hide
import Derived.Deep.QuietTactic
import Derived.BigQuiet
import Derived.StillTailTactics
import Derived.Deep.DeepCutAuto
import Derived.Deep.CutBlock
import Derived.Laws.EntriesVeiled
namespace Go.Proofs.YtfildbkkmnfekaaGreatDoor
open Go.RowKit

theorem dpL_mem {l : List Cls} {d : Nat} (h : dpL l ≤ d) : ∀ c ∈ l, dpC c ≤ d := by
  induction l with
  | nil => simp
  | cons c l ih =>
    rw [dpL] at h
    intro x hx
    rcases List.mem_cons.1 hx with rfl | hx
    · omega
    · exact ih (by omega) x hx
theorem sameLF_refl {f : Cls → Cls → Bool} : ∀ {l : List Cls}, (∀ c ∈ l, f c c = true) → sameLF f l l = true
  | [], _ => rfl
  | c :: l, h => by
    rw [sameLF, h c (by simp), sameLF_refl (fun x hx => h x (by simp [hx]))]; rfl
theorem sameC_refl : ∀ (d : Nat) (c : Cls), dpC c ≤ d → sameC d c c = true
  | 0, c, h => by have := dpC_pos c; omega
  | d + 1, .mk k ns nl s ex ar, h => by
    rw [dpC] at h
    rw [sameC, sameLF_refl (fun c hc => sameC_refl d c (dpL_mem (by omega) c hc)), sameLF_refl (fun c hc => sameC_refl d c (dpL_mem (by omega) c hc)), eqS_refl, eqS_refl]
    simp
theorem chkR_dp {c : Cls} (h : chkR c = 0) : dpC c ≤ 10 := by
  unfold chkR at h
  obtain ⟨h1, h2⟩ := countC_eq c 10
  split at h
  · simp at h
  · rename_i h3
    by_cases he : dpC c ≤ 10
    · exact he
    · exact absurd (h2 (.inl (by omega))) h3
theorem normF_dp (f : Nm → Bool) (m : Men) : dpC (normF chkR f m).1 ≤ 10 := by
  unfold normF
  split
  · rename_i h; exact chkR_dp h
  · show dpC zeroC ≤ 10; decide
theorem resF_dp (e : Int) (f : Nm → Bool) (m : Men) : dpC (resF e (normF chkR f m)).1 ≤ 40 := by
  unfold resF
  split
  · have := normF_dp f m; omega
  · show dpC zeroC ≤ 40; decide
mutual
theorem size_num : ∀ (c : Cls) (r : Nat), numC c ≤ sizeC r c ∨ 100000 ≤ sizeC r c
  | .mk k ns nl s ex ar, 0 => by rw [sizeC]; omega
  | .mk k ns nl s ex ar, r + 1 => by
    rw [sizeC, numC]
    split
    · omega
    · have h1 := size_numL ex r 1
      have h2 := size_numL ar r (sizeL r 1 ex)
      omega
theorem size_numL : ∀ (l : List Cls) (r n : Nat), n + numL l ≤ sizeL r n l ∨ 100000 ≤ sizeL r n l
  | [], r, n => by rw [sizeL, numL]; omega
  | c :: l, r, n => by
    rw [sizeL, numL]
    split
    · have h1 := size_num c r
      have h2 := size_numL l r (n + sizeC r c)
      omega
    · omega
end
theorem size_small {c : Cls} (h : sizeC 40 c ≤ 400) : numC c ≤ 400 := by have := size_num c 40; omega
set_option maxHeartbeats 1000000 in
set_option maxRecDepth 100000 in
theorem great_any (c1 : Cls) (cs1 : List Value) (w : World) (F : Nat → Prop) (hr : RepC w F c1 cs1) {v : Bool} (hv : decide (400 < sizeC 40 c1) = v) :
    Calls Tryz.prog 8 #[.agg cs1.toArray, .int .i64 40] w fun e w' => e = .returned (.bool v) ∧ Below w.heap.size w w' := by
  obtain ⟨z, hz⟩ : ∃ z, sizeC 40 c1 = z := ⟨_, rfl⟩
  rw [hz] at hv
  have hr' := hr.here
  obtain ⟨k1, ns1, nl1, s1, A1, n1, c01, A1', n1', c01', rfl⟩ := hr.cells
  obtain ⟨w1, hw1, S1, hsz1, hb1⟩ := alloc_facts w (.cells #[.int .i64 k1, .string ns1, .string nl1, .string s1, .slice A1 n1 c01, .slice A1' n1' c01'] 28)
  obtain ⟨p0, p1, p2, p3, p4, p5⟩ := blk6 S1
  have H42 : Hid (Calls Tryz.prog 42 #[.agg #[.int .i64 k1, .string ns1, .string nl1, .string s1, .slice A1 n1 c01, .slice A1' n1' c01'], .int .i64 40] w1 fun e w' => e = .returned (.int .i64 z) ∧ Below w1.heap.size w1 w') := Lib.hid (by rw [← hz]; exact size_any 40 c1 _ w1 _ (hr'.below hb1) (by omega))
  have hd : decide ((400 : Int) < (z : Int)) = v := by rw [← hv]; simp only [decide_eq_decide]; omega
  clear S1 hr hr' hz hv
  go_enter Tryz.func8, Tryz.ntmps8
  go_wp2_with fail
  refine H42.out.mono ?_
  rintro e w2 ⟨rfl, hb2⟩
  cases v
  all_goals
    go_wp2_with fail
    go_ret
    exact ⟨rfl, hb1.seq hb2⟩
set_option maxHeartbeats 1000000 in
set_option maxRecDepth 100000 in
theorem same21_eq (c1 : Cls) (cs1 cs2 : List Value) (e : Int) (w : World) (F F' : Nat → Prop) (hr1 : RepC w F c1 cs1) (hr2 : RepC w F' c1 cs2) (hd : dpC c1 ≤ 40) :
    Calls Tryz.prog 21 #[.agg cs1.toArray, .agg cs2.toArray, .int .i64 e, .int .i64 e] w fun e w' => e = .returned (.bool true) ∧ Below w.heap.size w w' := by
  have hr1' := hr1.here
  have hr2' := hr2.here
  obtain ⟨k1, ns1, nl1, s1, A1, n1, c01, A1', n1', c01', rfl⟩ := hr1.cells
  obtain ⟨k2, ns2, nl2, s2, A2, n2, c02, A2', n2', c02', rfl⟩ := hr2.cells
  obtain ⟨w1, hw1, S1, S2, hsz1, hb1⟩ := alloc2_facts w (.cells #[.int .i64 k1, .string ns1, .string nl1, .string s1, .slice A1 n1 c01, .slice A1' n1' c01'] 28) (.cells #[.int .i64 k2, .string ns2, .string nl2, .string s2, .slice A2 n2 c02, .slice A2' n2' c02'] 28)
  obtain ⟨p0, p1, p2, p3, p4, p5⟩ := blk6 S1
  obtain ⟨q0, q1, q2, q3, q4, q5⟩ := blk6 S2
  have hee : (e == e) = true := by simp
  have H36 : Hid (Calls Tryz.prog 36 #[.agg #[.int .i64 k1, .string ns1, .string nl1, .string s1, .slice A1 n1 c01, .slice A1' n1' c01'], .agg #[.int .i64 k2, .string ns2, .string nl2, .string s2, .slice A2 n2 c02, .slice A2' n2' c02']] w1 fun e w' => e = .returned (.bool true) ∧ Below w1.heap.size w1 w') := Lib.hid (SameClass_val c1 c1 _ _ w1 _ _ (hr1'.below hb1) (hr2'.below hb1) (sameC_refl 40 c1 hd))
  clear S1 S2 hr1 hr2 hr1' hr2'
  go_enter Tryz.func21, Tryz.ntmps21
  go_wp2_with fail
  refine H36.out.mono ?_
  rintro e w2 ⟨rfl, hb2⟩
  go_wp2_with fail
  go_ret
  exact ⟨rfl, hb1.seq hb2⟩
end Go.Proofs.YtfildbkkmnfekaaGreatDoor
