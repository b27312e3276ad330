/- The closure of names.Check, and names.Check. -/
import Derived.Test.YtfildbkkmnfekaaGreatDoorRep
import Derived.Test.YtfildbkkmnfekaaGreatDoorG10
import Derived.WalkKit
import Derived.WalkSpells
import Derived.WalkLawsBesides
import Derived.BigGuardPart
import Derived.Lib.Hide
import Derived.Deep.QuietTactic
import Derived.BigQuiet
import Derived.StillTailTactics
import Derived.Deep.DeepCutAuto
import Derived.Deep.CutBlock
namespace Go.Proofs.YtfildbkkmnfekaaGreatDoor
open Go.RowKit

/-- What names.Check makes of the fields of a class, in its own order. -/
def kindW (k : Int) (ns nl s : ByteArray) (n n' : Nat) : Bool :=
  if k = 1 then validB ns nl && decide (n = 0) else if k = 2 then decide (s.size ≤ 200) else if k = 3 then true else if k = 4 then decide (0 < n') && decide (n = 0) else false
def restW (k : Int) (ns nl s : ByteArray) (n n' : Nat) : Bool :=
  (k == 1 || (eqS ns ⟨#[]⟩ && eqS nl ⟨#[]⟩)) && (k == 2 || s.toList.isEmpty) && decide (n ≤ 1) && (k == 4 || decide (n' = 0))
mutual
def walkC : Nat → Cls → Nat → Bool → Nat × Bool × Bool
  | d, .mk k ns nl s ex ar, m, f => if 10 < d ∨ 100 < m + 1 then (m + 1, f, false) else
      let r := walkL (d + 1) ex (m + 1) (f && kindW k ns nl s ex.length ar.length && restW k ns nl s ex.length ar.length)
      if r.2.2 then walkL (d + 1) ar r.1 r.2.1 else r
def walkL : Nat → List Cls → Nat → Bool → Nat × Bool × Bool
  | _, [], m, f => (m, f, true)
  | d, c :: l, m, f => let r := walkC d c m f; if r.2.2 then walkL d l r.1 r.2.1 else r
end
mutual
theorem walkC_le : ∀ (c : Cls) (d m : Nat) (f : Bool), m ≤ 100 → (walkC d c m f).1 ≤ 101 ∧ ((walkC d c m f).2.2 = true → (walkC d c m f).1 ≤ 100)
  | .mk k ns nl s ex ar, d, m, f, hm => by
    rw [walkC]
    split
    · exact ⟨by simp; omega, by simp⟩
    · have h1 := walkL_le ex (d + 1) (m + 1) (f && kindW k ns nl s ex.length ar.length && restW k ns nl s ex.length ar.length) (by omega)
      dsimp only
      split
      · rename_i h
        exact walkL_le ar (d + 1) _ _ (h1.2 h)
      · exact h1
theorem walkL_le : ∀ (l : List Cls) (d m : Nat) (f : Bool), m ≤ 100 → (walkL d l m f).1 ≤ 101 ∧ ((walkL d l m f).2.2 = true → (walkL d l m f).1 ≤ 100)
  | [], d, m, f, hm => by rw [walkL]; exact ⟨by simp; omega, fun _ => hm⟩
  | c :: l, d, m, f, hm => by
    rw [walkL]
    have h1 := walkC_le c d m f hm
    split
    · rename_i h
      exact walkL_le l d _ _ (h1.2 h)
    · exact h1
end
theorem walkL_step {l : List Cls} {i : Nat} {ch : Cls} (d m : Nat) (f : Bool) (h : l[i]? = some ch) :
    walkL d (l.drop i) m f = (if (walkC d ch m f).2.2 then walkL d (l.drop (i + 1)) (walkC d ch m f).1 (walkC d ch m f).2.1 else walkC d ch m f) := by
  obtain ⟨hi, rfl⟩ := List.getElem?_eq_some_iff.1 h
  rw [List.drop_eq_getElem_cons hi, walkL]

/-- The lists that are still to be walked. -/
def walkLL (d : Nat) : List (List Cls) → Nat → Bool → Nat × Bool × Bool
  | [], m, f => (m, f, true)
  | l :: ls, m, f => if (walkL d l m f).2.2 then walkLL d ls (walkL d l m f).1 (walkL d l m f).2.1 else walkL d l m f
theorem walkLL_one (d : Nat) (l : List Cls) (m : Nat) (f : Bool) : walkLL d [l] m f = walkL d l m f := by
  rw [walkLL]
  split
  · rename_i h; rw [walkLL]; exact Prod.ext rfl (Prod.ext rfl h.symm)
  · rfl
theorem walkC_eq (d : Nat) (k : Int) (ns nl s : ByteArray) (ex ar : List Cls) (m : Nat) (f : Bool) (h : ¬ (10 < d ∨ 100 < m + 1)) :
    walkC d (.mk k ns nl s ex ar) m f = walkLL (d + 1) [ex, ar] (m + 1) (f && kindW k ns nl s ex.length ar.length && restW k ns nl s ex.length ar.length) := by
  rw [walkC, if_neg h, walkLL]
  dsimp only
  split
  · rw [walkLL_one]
  · rfl
/-- Behind i elements of the list l: what the rest comes to. -/
def contL (d : Nat) (ls : List (List Cls)) (r : Nat × Bool × Bool) : Nat × Bool × Bool := if r.2.2 then walkLL d ls r.1 r.2.1 else r
theorem restW_eq (k : Int) (ns nl s : ByteArray) (n n' : Nat) : restW k ns nl s n n' =
    ((eqS (if k = 1 then ⟨#[]⟩ else ns) ⟨#[]⟩ && eqS (if k = 1 then ⟨#[]⟩ else nl) ⟨#[]⟩) && (if k = 2 then (⟨#[]⟩ : ByteArray) else s).toList.isEmpty && decide (n ≤ 1) && (k == 4 || decide (n' = 0))) := by
  have e : eqS (⟨#[]⟩ : ByteArray) ⟨#[]⟩ = true := eqS_iff.2 rfl
  unfold restW
  by_cases h1 : k = 1
  · have h2 : ¬ k = 2 := by omega
    simp [h1, e]
  · by_cases h2 : k = 2
    · simp [h2]
    · have b1 : (k == 1) = false := by simpa using h1
      have b2 : (k == 2) = false := by simpa using h2
      simp [h1, h2, b1, b2]
/-- What the closure of Check has captured: the count, the flag, itself. -/
def ChkSt (w : World) (bm bf bk m : Nat) (f : Bool) : Prop :=
  w.heap[bm]? = some (.cells #[.int .i64 m] 3) ∧ w.heap[bf]? = some (.cells #[.bool f] 4) ∧
  w.heap[bk]? = some (.cells #[.func (.func 52) #[] #[.pointer (some ⟨bm, 0, none⟩), .pointer (some ⟨bf, 0, none⟩), .pointer (some ⟨bk, 0, none⟩)]] 26)
def ChkPost (bm bf bk : Nat) (r : Nat × Bool × Bool) (w : World) (e : Ending) (w' : World) : Prop :=
  e = .returned (.bool r.2.2) ∧ ChkSt w' bm bf bk r.1 r.2.1 ∧ Kept (fun b => b = bm ∨ b = bf) w w'
theorem valid_any (a b : ByteArray) (w : World) :
    Calls Tryz.prog 51 #[.agg #[.string a, .string b]] w fun e w' => e = .returned (.bool (validB a b)) ∧ Below w.heap.size w w' := by
  go_enter Tryz.func51, Tryz.ntmps51
  go_wp2
  · have h0 := isEmpty_false (by assumption : b.toList.isEmpty = false)
    have hx : decide (1 ≤ b.size) = true := decide_eq_true h0
    have hy : ((b.size : Int)) ≤ 200 := by assumption
    have hz : decide (b.size ≤ 200) = true := by simp; omega
    go_ret
    exact ⟨ret_bool (by unfold validB; rw [hx, hz, Bool.eq_iff_iff]; simp; omega), (Below.refl _ _).alloc (Nat.le_refl _) _⟩
  · go_ret
    exact ⟨ret_bool (by have : (200 : Int) < (b.size : Int) := by assumption
                        have hz : decide (b.size ≤ 200) = false := by simp; omega
                        unfold validB; rw [hz]; simp), (Below.refl _ _).alloc (Nat.le_refl _) _⟩
  · have h0 := isEmpty_true (by assumption : b.toList.isEmpty = true)
    have hx : decide (1 ≤ b.size) = false := decide_eq_false (by omega)
    go_ret
    exact ⟨ret_bool (by unfold validB; rw [hx]; rfl), (Below.refl _ _).alloc (Nat.le_refl _) _⟩

set_option maxHeartbeats 1000000 in
set_option maxRecDepth 100000 in
theorem walk_any (bm bf bk : Nat) (hmf : bm ≠ bf) (hmk : bm ≠ bk) (hfk : bf ≠ bk) (c : Cls) : ∀ (cs : List Value) (w : World) (B d m : Nat) (f : Bool), RepC w (· < B) c cs → B ≤ bm → B ≤ bf →
    ChkSt w bm bf bk m f → m ≤ 100 → d ≤ 11 →
    Calls Tryz.prog 52 #[.agg cs.toArray, .int .i64 d, .pointer (some ⟨bm, 0, none⟩), .pointer (some ⟨bf, 0, none⟩), .pointer (some ⟨bk, 0, none⟩)] w (ChkPost bm bf bk (walkC d c m f) w) := by
  induction c using Cls.ind with
  | _ k ns nl s ex ar ihe iha =>
    intro cs w B d m f hr0 hBm hBf hst hm hd
    obtain ⟨A, n, c, A', n', c', rfl, hl, hl', h1, h2⟩ := hr0.form
    have HE0 := Lib.hid ihe; have HA0 := Lib.hid iha; clear ihe iha hr0
    have heq := run_eql_name
    obtain ⟨S1, S2, S3⟩ := hst
    have l1 := hp_lt S1
    have l2 := hp_lt S2
    have l3 := hp_lt S3
    have c1 := blk1 S1
    have f1 := frozen_of_row w bm 0 _ _ S1
    have e0 : (w.setCell ⟨bm, 0, none⟩ (.int .i64 ((m : Int) + 1))).heap.size = w.heap.size := by simp [World.setCell]
    by_cases hgo : 10 < d ∨ 100 < m + 1
    · have HR : Hid (walkC d (.mk k ns nl s ex ar) m f = (m + 1, f, false)) := by rw [walkC, if_pos hgo]; exact rfl
      have HS1 := Lib.hid S1; have HS2 := Lib.hid S2; have HS3 := Lib.hid S3; have E0 := Lib.hid e0
      clear S1 S2 S3 e0
      rcases (show decide (10 < (d : Int)) = true ∨ (decide (10 < (d : Int)) = false ∧ decide (100 < (m : Int) + 1) = true) by simp; omega) with hx | ⟨hx, hy⟩
      all_goals
        clear hgo
        go_enter Tryz.func52, Tryz.ntmps52
        go_wp2_with fail
        go_ret
        refine ⟨ret_bool (by rw [HR.out]), ?_, ((Kept.refl _ w).setCell (p := ⟨bm, 0, none⟩) (.inl (.inl rfl)) _).alloc _⟩
        rw [HR.out]
        exact ⟨hp_alloc (hp_set1 HS1.out), hp_alloc (hp_far (fun e => hmf e.symm) HS2.out), hp_alloc (hp_far (fun e => hmk e.symm) HS3.out)⟩
    · have hd1 : decide (10 < (d : Int)) = false := by simp; omega
      have hd2 : decide (100 < (m : Int) + 1) = false := by simp; omega
      obtain ⟨w1, hw1⟩ : ∃ w1, ((w.setCell ⟨bm, 0, none⟩ (.int .i64 ((m : Int) + 1))).alloc (.cells #[.int .i64 k, .string ns, .string nl, .string s, .slice A n c, .slice A' n' c'] 28)).alloc (.cells #[.int .i64 0, .string ns, .string nl, .string s, .slice none 0 0, .slice none 0 0] 28) = w1 := ⟨_, rfl⟩
      have T1 : w1.heap[bm]? = some (.cells #[.int .i64 ((m : Int) + 1)] 3) := by rw [← hw1]; exact hp_alloc (hp_alloc (hp_set1 S1))
      have T2 : w1.heap[bf]? = some (.cells #[.bool f] 4) := by rw [← hw1]; exact hp_alloc (hp_alloc (hp_far (fun e => hmf e.symm) S2))
      have T3 : w1.heap[bk]? = some (.cells #[.func (.func 52) #[] #[.pointer (some ⟨bm, 0, none⟩), .pointer (some ⟨bf, 0, none⟩), .pointer (some ⟨bk, 0, none⟩)]] 26) := by rw [← hw1]; exact hp_alloc (hp_alloc (hp_far (fun e => hmk e.symm) S3))
      have TB : w1.heap[w.heap.size]? = some (.cells #[.int .i64 k, .string ns, .string nl, .string s, .slice A n c, .slice A' n' c'] 28) := by rw [← hw1, ← e0]; exact heap_alloc2_old _ _ _
      have TR : w1.heap[w.heap.size + 1]? = some (.cells #[.int .i64 0, .string ns, .string nl, .string s, .slice none 0 0, .slice none 0 0] 28) := by rw [← hw1, ← e0]; exact heap_alloc2_new _ _ _
      have hK : Kept (fun b => b = bm ∨ b = bf) w w1 := by rw [← hw1]; exact (((Kept.refl _ w).setCell (p := ⟨bm, 0, none⟩) (.inl (.inl rfl)) _).alloc _).alloc _
      have hsz := hp_lt TR
      have c2 := blk1 T2
      have f2 := frozen_of_row w1 bf 0 _ _ T2
      obtain ⟨q0, q1, q2, q3, q4, q5⟩ := blk6 TB
      obtain ⟨r0, r1, r2, r3, r4, r5⟩ := blk6 TR
      have g1 := frozen_of_row w1 (w.heap.size + 1) 1 _ _ TR
      have g2 := frozen_of_row w1 (w.heap.size + 1) 2 _ _ TR
      have g3 := frozen_of_row w1 (w.heap.size + 1) 3 _ _ TR
      have HS1 := Lib.hid S1; have HS2 := Lib.hid S2; have HS3 := Lib.hid S3; have HT1 := Lib.hid T1; have HT2 := Lib.hid T2; have HT3 := Lib.hid T3; have HTB := Lib.hid TB; have HTR := Lib.hid TR
      clear S1 S2 S3 T1 T2 T3 TB TR e0
      go_enter Tryz.func52, Tryz.ntmps52
      go_upto_block 0 with fail
      have HW := Lib.hid hw1; clear hw1
      go_cut [] (fun wc => wc.heap[bm]? = some (.cells #[.int .i64 ((m : Int) + 1)] 3) ∧ (∃ v, wc.heap[bf]? = some (.cells #[.bool v] 4) ∧ v = (f && kindW k ns nl s n n')) ∧
        wc.heap[bk]? = some (.cells #[.func (.func 52) #[] #[.pointer (some ⟨bm, 0, none⟩), .pointer (some ⟨bf, 0, none⟩), .pointer (some ⟨bk, 0, none⟩)]] 26) ∧
        wc.heap[w.heap.size]? = some (.cells #[.int .i64 k, .string ns, .string nl, .string s, .slice A n c, .slice A' n' c'] 28) ∧
        wc.heap[w.heap.size + 1]? = some (.cells #[.int .i64 0, .string (if k = 1 then ⟨#[]⟩ else ns), .string (if k = 1 then ⟨#[]⟩ else nl), .string (if k = 2 then ⟨#[]⟩ else s), .slice none 0 0, .slice none 0 0] 28) ∧ Kept (fun b => b = bm ∨ b = bf) w wc)
      case first =>
        rcases kind4 k with hk | ⟨hk, hk2⟩ | ⟨hk, hk2, hk3⟩ | ⟨hk, hk2, hk3, hk4⟩ | ⟨hk, hk2, hk3, hk4⟩
        · have hk' : k = 1 := by simpa using hk
          have hk2' : ¬ k = 2 := by omega
          have HI : Hid (kindW k ns nl s n n' = (validB ns nl && decide (n = 0)) ∧ (if k = 1 then (⟨#[]⟩ : ByteArray) else ns) = (⟨#[]⟩ : ByteArray) ∧ (if k = 1 then (⟨#[]⟩ : ByteArray) else nl) = (⟨#[]⟩ : ByteArray) ∧ (if k = 2 then (⟨#[]⟩ : ByteArray) else s) = s) := by
            unfold kindW; rw [if_pos hk', if_pos hk', if_pos hk', if_neg hk2']; exact ⟨rfl, rfl, rfl, rfl⟩
          clear hk' hk2'
          cases f with
          | false =>
            go_wp2_with fail
            go_meet
            case rel =>
              obtain ⟨i1, i2, i3, i4⟩ := HI.out
              rw [i1, i2, i3, i4]
              have hv3 := hp_lt HTR.out
              refine ⟨?_, ?_, ?_, ?_, ?_, ?_⟩
              · repeat (first | with_reducible exact HT1.out | with_reducible exact HT2.out | with_reducible exact HT3.out | with_reducible exact HTB.out | with_reducible exact HTR.out | with_reducible apply hp_set1 | with_reducible apply hp_set6_3 | with_reducible apply hp_set6_2 | with_reducible apply hp_set6_1 | ((with_reducible refine hp_far ?_ ?_); omega))
              · apply Exists.intro
                refine And.intro ?_ ?_
                · repeat (first | with_reducible exact HT1.out | with_reducible exact HT2.out | with_reducible exact HT3.out | with_reducible exact HTB.out | with_reducible exact HTR.out | with_reducible apply hp_set1 | with_reducible apply hp_set6_3 | with_reducible apply hp_set6_2 | with_reducible apply hp_set6_1 | ((with_reducible refine hp_far ?_ ?_); omega))
                · rfl
              · repeat (first | with_reducible exact HT1.out | with_reducible exact HT2.out | with_reducible exact HT3.out | with_reducible exact HTB.out | with_reducible exact HTR.out | with_reducible apply hp_set1 | with_reducible apply hp_set6_3 | with_reducible apply hp_set6_2 | with_reducible apply hp_set6_1 | ((with_reducible refine hp_far ?_ ?_); omega))
              · repeat (first | with_reducible exact HT1.out | with_reducible exact HT2.out | with_reducible exact HT3.out | with_reducible exact HTB.out | with_reducible exact HTR.out | with_reducible apply hp_set1 | with_reducible apply hp_set6_3 | with_reducible apply hp_set6_2 | with_reducible apply hp_set6_1 | ((with_reducible refine hp_far ?_ ?_); omega))
              · repeat (first | with_reducible exact HT1.out | with_reducible exact HT2.out | with_reducible exact HT3.out | with_reducible exact HTB.out | with_reducible exact HTR.out | with_reducible apply hp_set1 | with_reducible apply hp_set6_3 | with_reducible apply hp_set6_2 | with_reducible apply hp_set6_1 | ((with_reducible refine hp_far ?_ ?_); omega))
              · first | exact hK | exact hK.setCell (.inl (.inr rfl)) _ | exact (hK.setCell (.inl (.inr rfl)) _).setCell (.inr (by simp)) _ | exact ((hK.setCell (.inl (.inr rfl)) _).setCell (.inr (by simp)) _).setCell (.inr (by simp)) _
          | true =>
            go_wp2_with fail
            refine (valid_any _ _ _).mono ?_
            rintro e3 w2 ⟨rfl, hb2⟩
            have hK2 := hK.trans (Kept.of_below hb2)
            have HT1 := Lib.hid (hp_below HT1.out hb2)
            have HT2 := Lib.hid (hp_below HT2.out hb2)
            have HT3 := Lib.hid (hp_below HT3.out hb2)
            have HTB := Lib.hid (hp_below HTB.out hb2)
            have HTR := Lib.hid (hp_below HTR.out hb2)
            clear c2 f2 q0 q1 q2 q3 q4 q5 r0 r1 r2 r3 r4 r5 g1 g2 g3
            have c2 := blk1 HT2.out
            have f2 := frozen_of_row w2 bf 0 _ _ HT2.out
            obtain ⟨q0, q1, q2, q3, q4, q5⟩ := blk6 HTB.out
            obtain ⟨r0, r1, r2, r3, r4, r5⟩ := blk6 HTR.out
            have g1 := frozen_of_row w2 (w.heap.size + 1) 1 _ _ HTR.out
            have g2 := frozen_of_row w2 (w.heap.size + 1) 2 _ _ HTR.out
            have hsz2 := hp_lt HTR.out
            cases hv : validB ns nl with
            | false =>
              have HV := Lib.hid hv; clear hv
              go_wp2_with fail
              go_meet
              case rel =>
                obtain ⟨i1, i2, i3, i4⟩ := HI.out
                rw [i1, i2, i3, i4]
                have hv3 := hp_lt HTR.out
                refine ⟨?_, ?_, ?_, ?_, ?_, ?_⟩
                · repeat (first | with_reducible exact HT1.out | with_reducible exact HT2.out | with_reducible exact HT3.out | with_reducible exact HTB.out | with_reducible exact HTR.out | with_reducible apply hp_set1 | with_reducible apply hp_set6_3 | with_reducible apply hp_set6_2 | with_reducible apply hp_set6_1 | ((with_reducible refine hp_far ?_ ?_); omega))
                · apply Exists.intro
                  refine And.intro ?_ ?_
                  · repeat (first | with_reducible exact HT1.out | with_reducible exact HT2.out | with_reducible exact HT3.out | with_reducible exact HTB.out | with_reducible exact HTR.out | with_reducible apply hp_set1 | with_reducible apply hp_set6_3 | with_reducible apply hp_set6_2 | with_reducible apply hp_set6_1 | ((with_reducible refine hp_far ?_ ?_); omega))
                  · rw [HV.out]; rfl
                · repeat (first | with_reducible exact HT1.out | with_reducible exact HT2.out | with_reducible exact HT3.out | with_reducible exact HTB.out | with_reducible exact HTR.out | with_reducible apply hp_set1 | with_reducible apply hp_set6_3 | with_reducible apply hp_set6_2 | with_reducible apply hp_set6_1 | ((with_reducible refine hp_far ?_ ?_); omega))
                · repeat (first | with_reducible exact HT1.out | with_reducible exact HT2.out | with_reducible exact HT3.out | with_reducible exact HTB.out | with_reducible exact HTR.out | with_reducible apply hp_set1 | with_reducible apply hp_set6_3 | with_reducible apply hp_set6_2 | with_reducible apply hp_set6_1 | ((with_reducible refine hp_far ?_ ?_); omega))
                · repeat (first | with_reducible exact HT1.out | with_reducible exact HT2.out | with_reducible exact HT3.out | with_reducible exact HTB.out | with_reducible exact HTR.out | with_reducible apply hp_set1 | with_reducible apply hp_set6_3 | with_reducible apply hp_set6_2 | with_reducible apply hp_set6_1 | ((with_reducible refine hp_far ?_ ?_); omega))
                · first | exact hK2 | exact hK2.setCell (.inl (.inr rfl)) _ | exact (hK2.setCell (.inl (.inr rfl)) _).setCell (.inr (by simp)) _ | exact ((hK2.setCell (.inl (.inr rfl)) _).setCell (.inr (by simp)) _).setCell (.inr (by simp)) _
            | true =>
              have HV := Lib.hid hv; clear hv
              go_wp2_with fail
              go_meet
              case rel =>
                obtain ⟨i1, i2, i3, i4⟩ := HI.out
                rw [i1, i2, i3, i4]
                have hv3 := hp_lt HTR.out
                refine ⟨?_, ?_, ?_, ?_, ?_, ?_⟩
                · repeat (first | with_reducible exact HT1.out | with_reducible exact HT2.out | with_reducible exact HT3.out | with_reducible exact HTB.out | with_reducible exact HTR.out | with_reducible apply hp_set1 | with_reducible apply hp_set6_3 | with_reducible apply hp_set6_2 | with_reducible apply hp_set6_1 | ((with_reducible refine hp_far ?_ ?_); omega))
                · apply Exists.intro
                  refine And.intro ?_ ?_
                  · repeat (first | with_reducible exact HT1.out | with_reducible exact HT2.out | with_reducible exact HT3.out | with_reducible exact HTB.out | with_reducible exact HTR.out | with_reducible apply hp_set1 | with_reducible apply hp_set6_3 | with_reducible apply hp_set6_2 | with_reducible apply hp_set6_1 | ((with_reducible refine hp_far ?_ ?_); omega))
                  · rw [HV.out, Bool.eq_iff_iff]; simp <;> omega
                · repeat (first | with_reducible exact HT1.out | with_reducible exact HT2.out | with_reducible exact HT3.out | with_reducible exact HTB.out | with_reducible exact HTR.out | with_reducible apply hp_set1 | with_reducible apply hp_set6_3 | with_reducible apply hp_set6_2 | with_reducible apply hp_set6_1 | ((with_reducible refine hp_far ?_ ?_); omega))
                · repeat (first | with_reducible exact HT1.out | with_reducible exact HT2.out | with_reducible exact HT3.out | with_reducible exact HTB.out | with_reducible exact HTR.out | with_reducible apply hp_set1 | with_reducible apply hp_set6_3 | with_reducible apply hp_set6_2 | with_reducible apply hp_set6_1 | ((with_reducible refine hp_far ?_ ?_); omega))
                · repeat (first | with_reducible exact HT1.out | with_reducible exact HT2.out | with_reducible exact HT3.out | with_reducible exact HTB.out | with_reducible exact HTR.out | with_reducible apply hp_set1 | with_reducible apply hp_set6_3 | with_reducible apply hp_set6_2 | with_reducible apply hp_set6_1 | ((with_reducible refine hp_far ?_ ?_); omega))
                · first | exact hK2 | exact hK2.setCell (.inl (.inr rfl)) _ | exact (hK2.setCell (.inl (.inr rfl)) _).setCell (.inr (by simp)) _ | exact ((hK2.setCell (.inl (.inr rfl)) _).setCell (.inr (by simp)) _).setCell (.inr (by simp)) _
        · have hk' : ¬ k = 1 := by simpa using hk
          have hk2' : k = 2 := by simpa using hk2
          have HI : Hid (kindW k ns nl s n n' = (decide (s.size ≤ 200)) ∧ (if k = 1 then (⟨#[]⟩ : ByteArray) else ns) = ns ∧ (if k = 1 then (⟨#[]⟩ : ByteArray) else nl) = nl ∧ (if k = 2 then (⟨#[]⟩ : ByteArray) else s) = (⟨#[]⟩ : ByteArray)) := by
            unfold kindW; rw [if_neg hk', if_pos hk2', if_neg hk', if_neg hk', if_pos hk2']; exact ⟨rfl, rfl, rfl, rfl⟩
          clear hk' hk2'
          cases f
          all_goals
            go_wp2_with fail
            go_meet
            case rel =>
              obtain ⟨i1, i2, i3, i4⟩ := HI.out
              rw [i1, i2, i3, i4]
              have hv3 := hp_lt HTR.out
              refine ⟨?_, ?_, ?_, ?_, ?_, ?_⟩
              · repeat (first | with_reducible exact HT1.out | with_reducible exact HT2.out | with_reducible exact HT3.out | with_reducible exact HTB.out | with_reducible exact HTR.out | with_reducible apply hp_set1 | with_reducible apply hp_set6_3 | with_reducible apply hp_set6_2 | with_reducible apply hp_set6_1 | ((with_reducible refine hp_far ?_ ?_); omega))
              · apply Exists.intro
                refine And.intro ?_ ?_
                · repeat (first | with_reducible exact HT1.out | with_reducible exact HT2.out | with_reducible exact HT3.out | with_reducible exact HTB.out | with_reducible exact HTR.out | with_reducible apply hp_set1 | with_reducible apply hp_set6_3 | with_reducible apply hp_set6_2 | with_reducible apply hp_set6_1 | ((with_reducible refine hp_far ?_ ?_); omega))
                · first | rfl | (simp <;> omega)
              · repeat (first | with_reducible exact HT1.out | with_reducible exact HT2.out | with_reducible exact HT3.out | with_reducible exact HTB.out | with_reducible exact HTR.out | with_reducible apply hp_set1 | with_reducible apply hp_set6_3 | with_reducible apply hp_set6_2 | with_reducible apply hp_set6_1 | ((with_reducible refine hp_far ?_ ?_); omega))
              · repeat (first | with_reducible exact HT1.out | with_reducible exact HT2.out | with_reducible exact HT3.out | with_reducible exact HTB.out | with_reducible exact HTR.out | with_reducible apply hp_set1 | with_reducible apply hp_set6_3 | with_reducible apply hp_set6_2 | with_reducible apply hp_set6_1 | ((with_reducible refine hp_far ?_ ?_); omega))
              · repeat (first | with_reducible exact HT1.out | with_reducible exact HT2.out | with_reducible exact HT3.out | with_reducible exact HTB.out | with_reducible exact HTR.out | with_reducible apply hp_set1 | with_reducible apply hp_set6_3 | with_reducible apply hp_set6_2 | with_reducible apply hp_set6_1 | ((with_reducible refine hp_far ?_ ?_); omega))
              · first | exact hK | exact hK.setCell (.inl (.inr rfl)) _ | exact (hK.setCell (.inl (.inr rfl)) _).setCell (.inr (by simp)) _ | exact ((hK.setCell (.inl (.inr rfl)) _).setCell (.inr (by simp)) _).setCell (.inr (by simp)) _
        · have hk' : ¬ k = 1 := by simpa using hk
          have hk2' : ¬ k = 2 := by simpa using hk2
          have hk3' : k = 3 := by simpa using hk3
          have HI : Hid (kindW k ns nl s n n' = (true) ∧ (if k = 1 then (⟨#[]⟩ : ByteArray) else ns) = ns ∧ (if k = 1 then (⟨#[]⟩ : ByteArray) else nl) = nl ∧ (if k = 2 then (⟨#[]⟩ : ByteArray) else s) = s) := by
            unfold kindW; rw [if_neg hk', if_neg hk2', if_pos hk3', if_neg hk', if_neg hk', if_neg hk2']; exact ⟨rfl, rfl, rfl, rfl⟩
          clear hk' hk2' hk3'
          go_wp2_with fail
          go_meet
          case rel =>
            obtain ⟨i1, i2, i3, i4⟩ := HI.out
            rw [i1, i2, i3, i4]
            have hv3 := hp_lt HTR.out
            refine ⟨?_, ?_, ?_, ?_, ?_, ?_⟩
            · repeat (first | with_reducible exact HT1.out | with_reducible exact HT2.out | with_reducible exact HT3.out | with_reducible exact HTB.out | with_reducible exact HTR.out | with_reducible apply hp_set1 | with_reducible apply hp_set6_3 | with_reducible apply hp_set6_2 | with_reducible apply hp_set6_1 | ((with_reducible refine hp_far ?_ ?_); omega))
            · apply Exists.intro
              refine And.intro ?_ ?_
              · repeat (first | with_reducible exact HT1.out | with_reducible exact HT2.out | with_reducible exact HT3.out | with_reducible exact HTB.out | with_reducible exact HTR.out | with_reducible apply hp_set1 | with_reducible apply hp_set6_3 | with_reducible apply hp_set6_2 | with_reducible apply hp_set6_1 | ((with_reducible refine hp_far ?_ ?_); omega))
              · simp
            · repeat (first | with_reducible exact HT1.out | with_reducible exact HT2.out | with_reducible exact HT3.out | with_reducible exact HTB.out | with_reducible exact HTR.out | with_reducible apply hp_set1 | with_reducible apply hp_set6_3 | with_reducible apply hp_set6_2 | with_reducible apply hp_set6_1 | ((with_reducible refine hp_far ?_ ?_); omega))
            · repeat (first | with_reducible exact HT1.out | with_reducible exact HT2.out | with_reducible exact HT3.out | with_reducible exact HTB.out | with_reducible exact HTR.out | with_reducible apply hp_set1 | with_reducible apply hp_set6_3 | with_reducible apply hp_set6_2 | with_reducible apply hp_set6_1 | ((with_reducible refine hp_far ?_ ?_); omega))
            · repeat (first | with_reducible exact HT1.out | with_reducible exact HT2.out | with_reducible exact HT3.out | with_reducible exact HTB.out | with_reducible exact HTR.out | with_reducible apply hp_set1 | with_reducible apply hp_set6_3 | with_reducible apply hp_set6_2 | with_reducible apply hp_set6_1 | ((with_reducible refine hp_far ?_ ?_); omega))
            · first | exact hK | exact hK.setCell (.inl (.inr rfl)) _ | exact (hK.setCell (.inl (.inr rfl)) _).setCell (.inr (by simp)) _ | exact ((hK.setCell (.inl (.inr rfl)) _).setCell (.inr (by simp)) _).setCell (.inr (by simp)) _
        · have hk' : ¬ k = 1 := by simpa using hk
          have hk2' : ¬ k = 2 := by simpa using hk2
          have hk3' : ¬ k = 3 := by simpa using hk3
          have hk4' : k = 4 := by simpa using hk4
          have HI : Hid (kindW k ns nl s n n' = (decide (0 < n') && decide (n = 0)) ∧ (if k = 1 then (⟨#[]⟩ : ByteArray) else ns) = ns ∧ (if k = 1 then (⟨#[]⟩ : ByteArray) else nl) = nl ∧ (if k = 2 then (⟨#[]⟩ : ByteArray) else s) = s) := by
            unfold kindW; rw [if_neg hk', if_neg hk2', if_neg hk3', if_pos hk4', if_neg hk', if_neg hk', if_neg hk2']; exact ⟨rfl, rfl, rfl, rfl⟩
          clear hk' hk2' hk3' hk4'
          cases f
          all_goals
            go_wp2_with fail
          all_goals
            go_meet
            case rel =>
              obtain ⟨i1, i2, i3, i4⟩ := HI.out
              rw [i1, i2, i3, i4]
              have hv3 := hp_lt HTR.out
              refine ⟨?_, ?_, ?_, ?_, ?_, ?_⟩
              · repeat (first | with_reducible exact HT1.out | with_reducible exact HT2.out | with_reducible exact HT3.out | with_reducible exact HTB.out | with_reducible exact HTR.out | with_reducible apply hp_set1 | with_reducible apply hp_set6_3 | with_reducible apply hp_set6_2 | with_reducible apply hp_set6_1 | ((with_reducible refine hp_far ?_ ?_); omega))
              · apply Exists.intro
                refine And.intro ?_ ?_
                · repeat (first | with_reducible exact HT1.out | with_reducible exact HT2.out | with_reducible exact HT3.out | with_reducible exact HTB.out | with_reducible exact HTR.out | with_reducible apply hp_set1 | with_reducible apply hp_set6_3 | with_reducible apply hp_set6_2 | with_reducible apply hp_set6_1 | ((with_reducible refine hp_far ?_ ?_); omega))
                · first | rfl | (rw [Bool.eq_iff_iff]; simp [*] <;> first | omega | (intros; omega))
              · repeat (first | with_reducible exact HT1.out | with_reducible exact HT2.out | with_reducible exact HT3.out | with_reducible exact HTB.out | with_reducible exact HTR.out | with_reducible apply hp_set1 | with_reducible apply hp_set6_3 | with_reducible apply hp_set6_2 | with_reducible apply hp_set6_1 | ((with_reducible refine hp_far ?_ ?_); omega))
              · repeat (first | with_reducible exact HT1.out | with_reducible exact HT2.out | with_reducible exact HT3.out | with_reducible exact HTB.out | with_reducible exact HTR.out | with_reducible apply hp_set1 | with_reducible apply hp_set6_3 | with_reducible apply hp_set6_2 | with_reducible apply hp_set6_1 | ((with_reducible refine hp_far ?_ ?_); omega))
              · repeat (first | with_reducible exact HT1.out | with_reducible exact HT2.out | with_reducible exact HT3.out | with_reducible exact HTB.out | with_reducible exact HTR.out | with_reducible apply hp_set1 | with_reducible apply hp_set6_3 | with_reducible apply hp_set6_2 | with_reducible apply hp_set6_1 | ((with_reducible refine hp_far ?_ ?_); omega))
              · first | exact hK | exact hK.setCell (.inl (.inr rfl)) _ | exact (hK.setCell (.inl (.inr rfl)) _).setCell (.inr (by simp)) _ | exact ((hK.setCell (.inl (.inr rfl)) _).setCell (.inr (by simp)) _).setCell (.inr (by simp)) _
        · have hk' : ¬ k = 1 := by simpa using hk
          have hk2' : ¬ k = 2 := by simpa using hk2
          have hk3' : ¬ k = 3 := by simpa using hk3
          have hk4' : ¬ k = 4 := by simpa using hk4
          have HI : Hid (kindW k ns nl s n n' = (false) ∧ (if k = 1 then (⟨#[]⟩ : ByteArray) else ns) = ns ∧ (if k = 1 then (⟨#[]⟩ : ByteArray) else nl) = nl ∧ (if k = 2 then (⟨#[]⟩ : ByteArray) else s) = s) := by
            unfold kindW; rw [if_neg hk', if_neg hk2', if_neg hk3', if_neg hk4', if_neg hk', if_neg hk', if_neg hk2']; exact ⟨rfl, rfl, rfl, rfl⟩
          clear hk' hk2' hk3' hk4'
          go_wp2_with fail
          go_meet
          case rel =>
            obtain ⟨i1, i2, i3, i4⟩ := HI.out
            rw [i1, i2, i3, i4]
            have hv3 := hp_lt HTR.out
            refine ⟨?_, ?_, ?_, ?_, ?_, ?_⟩
            · repeat (first | with_reducible exact HT1.out | with_reducible exact HT2.out | with_reducible exact HT3.out | with_reducible exact HTB.out | with_reducible exact HTR.out | with_reducible apply hp_set1 | with_reducible apply hp_set6_3 | with_reducible apply hp_set6_2 | with_reducible apply hp_set6_1 | ((with_reducible refine hp_far ?_ ?_); omega))
            · apply Exists.intro
              refine And.intro ?_ ?_
              · repeat (first | with_reducible exact HT1.out | with_reducible exact HT2.out | with_reducible exact HT3.out | with_reducible exact HTB.out | with_reducible exact HTR.out | with_reducible apply hp_set1 | with_reducible apply hp_set6_3 | with_reducible apply hp_set6_2 | with_reducible apply hp_set6_1 | ((with_reducible refine hp_far ?_ ?_); omega))
              · simp
            · repeat (first | with_reducible exact HT1.out | with_reducible exact HT2.out | with_reducible exact HT3.out | with_reducible exact HTB.out | with_reducible exact HTR.out | with_reducible apply hp_set1 | with_reducible apply hp_set6_3 | with_reducible apply hp_set6_2 | with_reducible apply hp_set6_1 | ((with_reducible refine hp_far ?_ ?_); omega))
            · repeat (first | with_reducible exact HT1.out | with_reducible exact HT2.out | with_reducible exact HT3.out | with_reducible exact HTB.out | with_reducible exact HTR.out | with_reducible apply hp_set1 | with_reducible apply hp_set6_3 | with_reducible apply hp_set6_2 | with_reducible apply hp_set6_1 | ((with_reducible refine hp_far ?_ ?_); omega))
            · repeat (first | with_reducible exact HT1.out | with_reducible exact HT2.out | with_reducible exact HT3.out | with_reducible exact HTB.out | with_reducible exact HTR.out | with_reducible apply hp_set1 | with_reducible apply hp_set6_3 | with_reducible apply hp_set6_2 | with_reducible apply hp_set6_1 | ((with_reducible refine hp_far ?_ ?_); omega))
            · first | exact hK | exact hK.setCell (.inl (.inr rfl)) _ | exact (hK.setCell (.inl (.inr rfl)) _).setCell (.inr (by simp)) _ | exact ((hK.setCell (.inl (.inr rfl)) _).setCell (.inr (by simp)) _).setCell (.inr (by simp)) _
      case rest =>
        obtain ⟨U1, ⟨v, U2, hv⟩, U3, UB, UR, hKc⟩ := hcut
        have HV := Lib.hid hv
        have HRW := Lib.hid (restW_eq k ns nl s n n')
        obtain ⟨a1, ha1⟩ : ∃ a1, (if k = 1 then (⟨#[]⟩ : ByteArray) else ns) = a1 := ⟨_, rfl⟩
        obtain ⟨a2, ha2⟩ : ∃ a2, (if k = 1 then (⟨#[]⟩ : ByteArray) else nl) = a2 := ⟨_, rfl⟩
        obtain ⟨a3, ha3⟩ : ∃ a3, (if k = 2 then (⟨#[]⟩ : ByteArray) else s) = a3 := ⟨_, rfl⟩
        rw [ha1, ha2, ha3] at UR HRW
        clear hv ha1 ha2 ha3 c2 f2 q0 q1 q2 q3 q4 q5 r0 r1 r2 r3 r4 r5 g1 g2 g3 hK HT1 HT2 HT3 HTB HTR HW hsz
        have c2 := blk1 U2
        have f2 := frozen_of_row wc bf 0 _ _ U2
        have hsz := hp_lt UR
        obtain ⟨q0, q1, q2, q3, q4, q5⟩ := blk6 UB
        obtain ⟨r0, r1, r2, r3, r4, r5⟩ := blk6 UR
        have HT1 := Lib.hid U1; have HT2 := Lib.hid U2; have HT3 := Lib.hid U3; have HTB := Lib.hid UB; have HTR := Lib.hid UR
        clear U1 U2 U3 UB UR
        go_upto_region 17 with fail
        go_cut [] (fun wd => wd.heap[bm]? = some (.cells #[.int .i64 ((m : Int) + 1)] 3) ∧ (∃ v2, wd.heap[bf]? = some (.cells #[.bool v2] 4) ∧ v2 = (v && restW k ns nl s n n')) ∧
          wd.heap[bk]? = some (.cells #[.func (.func 52) #[] #[.pointer (some ⟨bm, 0, none⟩), .pointer (some ⟨bf, 0, none⟩), .pointer (some ⟨bk, 0, none⟩)]] 26) ∧
          wd.heap[w.heap.size]? = some (.cells #[.int .i64 k, .string ns, .string nl, .string s, .slice A n c, .slice A' n' c'] 28) ∧ Kept (fun b => b = bm ∨ b = bf) w wd)
        case first =>
          cases v
          all_goals
            go_wp2_with fail
          all_goals
            go_meet
            case rel =>
              rw [HRW.out]
              refine ⟨?_, ?_, ?_, ?_, ?_⟩
              · repeat (first | with_reducible exact HT1.out | with_reducible exact HT2.out | with_reducible exact HT3.out | with_reducible exact HTB.out | with_reducible exact HTR.out | with_reducible apply hp_set1 | with_reducible apply hp_set6_3 | with_reducible apply hp_set6_2 | with_reducible apply hp_set6_1 | ((with_reducible refine hp_far ?_ ?_); omega))
              · apply Exists.intro
                refine And.intro ?_ ?_
                · repeat (first | with_reducible exact HT1.out | with_reducible exact HT2.out | with_reducible exact HT3.out | with_reducible exact HTB.out | with_reducible exact HTR.out | with_reducible apply hp_set1 | with_reducible apply hp_set6_3 | with_reducible apply hp_set6_2 | with_reducible apply hp_set6_1 | ((with_reducible refine hp_far ?_ ?_); omega))
                · first | rfl | (rw [Bool.eq_iff_iff]; simp [*] <;> first | omega | (intros; omega) | (intros; simp_all))
              · repeat (first | with_reducible exact HT1.out | with_reducible exact HT2.out | with_reducible exact HT3.out | with_reducible exact HTB.out | with_reducible exact HTR.out | with_reducible apply hp_set1 | with_reducible apply hp_set6_3 | with_reducible apply hp_set6_2 | with_reducible apply hp_set6_1 | ((with_reducible refine hp_far ?_ ?_); omega))
              · repeat (first | with_reducible exact HT1.out | with_reducible exact HT2.out | with_reducible exact HT3.out | with_reducible exact HTB.out | with_reducible exact HTR.out | with_reducible apply hp_set1 | with_reducible apply hp_set6_3 | with_reducible apply hp_set6_2 | with_reducible apply hp_set6_1 | ((with_reducible refine hp_far ?_ ?_); omega))
              · exact hKc.setCell (.inl (.inr rfl)) _
        case rest =>
          obtain ⟨V1, ⟨v2, V2, hv2⟩, V3, VB, hKd⟩ := hcut
          have HR : Hid (walkC d (.mk k ns nl s ex ar) m f = walkLL (d + 1) [ex, ar] (m + 1) v2) := by
            rw [walkC_eq _ _ _ _ _ _ _ _ _ hgo, ← h1.len, ← h2.len, hv2, HV.out]; exact rfl
          have HST : ChkSt wc bm bf bk (m + 1) v2 := ⟨V1, V2, V3⟩
          obtain ⟨R, hR⟩ : ∃ R, walkC d (.mk k ns nl s ex ar) m f = R := ⟨_, rfl⟩
          have HR1 : Hid (walkLL (d + 1) [ex, ar] (m + 1) v2 = R) := by rw [← HR.out, hR]; exact rfl
          have HRR := Lib.hid hR
          have hm100 : m + 1 ≤ 100 := by omega
          have hd10 : d ≤ 10 := by omega
          clear c2 f2 q0 q1 q2 q3 q4 q5 r0 r1 r2 r3 r4 r5
          obtain ⟨q0, q1, q2, q3, q4, q5⟩ := blk6 VB
          clear V1 V2 V3 VB hv2 HR HT1 HT2 HT3 HTB HTR HV HRW hKc hsz hR heq hd1 hd2 c1 f1 hgo
          go_wp2_with fail
          go_loopw [104] (fun sj wr => ∃ j m' f', j ≤ 2 ∧ sj = .int .i64 (j : Nat) ∧ ChkSt wr bm bf bk m' f' ∧ m' ≤ 100 ∧ Hid (walkLL (d + 1) ([ex, ar].drop j) m' f' = R) ∧ Kept (fun b => b = bm ∨ b = bf) w wr)
            (fun sj _ => 2 - (intOf sj).toNat)
          case atStart => exact ⟨0, m + 1, v2, by omega, rfl, HST, hm100, HR1, hKd⟩
          case round =>
            clear q0 q1 q2 q3 q4 q5
            obtain ⟨j, m', f', hj, rfl, hst, hm', HL, hKr⟩ := hrel
            by_cases hj2 : j < 2
            · have hjd : decide ((j : Int) < 2) = true := by simp; omega
              obtain ⟨l, Aj, nj, cj, hrow, hdrop, HI, hnj, hidx⟩ : ∃ l Aj nj cj, RowL w (· < B) l Aj nj ∧ Hid ([ex, ar].drop j = l :: [ex, ar].drop (j + 1)) ∧
                  Hid (∀ c ∈ l, ∀ (cs : List Value) (w : World) (B d m : Nat) (f : Bool), RepC w (· < B) c cs → B ≤ bm → B ≤ bf → ChkSt w bm bf bk m f → m ≤ 100 → d ≤ 11 →
                    Calls Tryz.prog 52 #[.agg cs.toArray, .int .i64 d, .pointer (some ⟨bm, 0, none⟩), .pointer (some ⟨bf, 0, none⟩), .pointer (some ⟨bk, 0, none⟩)] w (ChkPost bm bf bk (walkC d c m f) w)) ∧
                  nj < 2000000000000 ∧ ∀ W, (Instr.index 73 (.agg #[.slice A n c, .slice A' n' c']) (.int .i64 (j : Nat))).run Tryz.prog W = .ok (.slice Aj nj cj) W := by
                rcases (show j = 0 ∨ j = 1 by omega) with rfl | rfl
                · exact ⟨ex, A, n, c, h1, Lib.hid rfl, HE0, hl, fun W => by kernel_rfl⟩
                · exact ⟨ar, A', n', c', h2, Lib.hid rfl, HA0, hl', fun W => by kernel_rfl⟩
              have HL2 : Hid (contL (d + 1) ([ex, ar].drop (j + 1)) (walkL (d + 1) l m' f') = R) := by
                have h := HL.out; rw [hdrop.out, walkLL] at h; exact h
              go_wp2_with fail
              go_loopw [109] (fun si wi => ∃ i mi fi, i ≤ nj ∧ si = .int .i64 (i : Nat) ∧ ChkSt wi bm bf bk mi fi ∧ mi ≤ 100 ∧ Hid (contL (d + 1) ([ex, ar].drop (j + 1)) (walkL (d + 1) (l.drop i) mi fi) = R) ∧ Kept (fun b => b = bm ∨ b = bf) w wi)
                (fun si _ => nj - (intOf si).toNat)
              case atStart => exact ⟨0, m', f', by omega, rfl, hst, hm', HL2, hKr⟩
              case round =>
                clear hst HL HL2 hm'
                obtain ⟨i, mi, fi, hi, rfl, hst, hm', HL, hKi⟩ := hrel
                by_cases hlt : i < nj
                · obtain ⟨b', off, ch, v0, v1, v2', v3, v4, v5, HX, hrc, p0, p1, p2, p3, p4, p5, hix⟩ := hrow.roundB (hKi.below (by omega) (by intro k hk h; omega)) hlt cj
                  have hid : decide (i < nj) = true := by simp; omega
                  have T3 := blk1 hst.2.2
                  have hlb := hp_lt hst.2.2
                  have hli := hp_lt hst.1
                  obtain ⟨kx, x1, x2, x3, A3, n3, c3, A4, n4, c4, rfl, rfl, rfl, rfl, rfl, rfl⟩ := hrc.shape
                  go_wp2_with fail
                  refine (HI.out ch (mem_of_hid HX) _ _ B (d + 1) mi fi (hrc.below ((Below.refl _ _).alloc (by omega) _)) hBm hBf ⟨hp_alloc hst.1, hp_alloc hst.2.1, hp_alloc hst.2.2⟩ hm' (by omega)).mono ?_
                  rintro e3 w3 ⟨rfl, hst3, hK3⟩
                  have hKt : Kept (fun b => b = bm ∨ b = bf) w w3 := (hKi.alloc _).trans hK3
                  have hle := walkC_le ch (d + 1) mi fi hm'
                  cases hv : (walkC (d + 1) ch mi fi).2.2 with
                  | true =>
                    have HV3 := Lib.hid hv; clear hv
                    have HLE := Lib.hid hle; clear hle
                    go_wp2_with fail
                    go_roundw
                    case rel => exact ⟨i + 1, _, _, by omega, by go_num, hst3, HLE.out.2 HV3.out, by have h := HL.out; rw [walkL_step _ _ _ HX.out, if_pos HV3.out] at h; exact h, hKt⟩
                    case measure => simp [intOf]; omega
                  | false =>
                    have HV3 := Lib.hid hv; clear hv
                    have HLE := Lib.hid hle; clear hle
                    have HF : Hid (walkC (d + 1) ch mi fi = R) := by
                      have h := HL.out; rw [walkL_step _ _ _ HX.out, if_neg (by rw [HV3.out]; simp), contL, if_neg (by rw [HV3.out]; simp)] at h; exact h
                    go_wp2_with fail
                    go_ret
                    refine ⟨ret_bool ?_, ?_, hKt⟩
                    · rw [HRR.out, ← HF.out, HV3.out]
                    · rw [HRR.out, ← HF.out]; exact hst3
                · have hid : decide (i < nj) = false := by simp; omega
                  have HL3 : Hid (walkLL (d + 1) ([ex, ar].drop (j + 1)) mi fi = R) := by
                    have hdn : l.drop i = [] := List.drop_eq_nil_of_le (by have := hrow.len; omega)
                    have h := HL.out; rw [hdn, walkL, contL] at h; exact h
                  go_wp2_with fail
                  go_roundw
                  case rel => exact ⟨j + 1, mi, fi, by omega, by go_num, hst, hm', HL3, hKi⟩
                  case measure => simp [intOf]; omega
            · have hjd : decide ((j : Int) < 2) = false := by simp; omega
              obtain rfl : j = 2 := by omega
              have HF : Hid ((m', f', true) = R) := by have h := HL.out; rw [show [ex, ar].drop 2 = [] from rfl, walkLL] at h; exact h
              go_wp2_with fail
              go_ret
              refine ⟨ret_bool ?_, ?_, hKr⟩
              · rw [HRR.out, ← HF.out]
              · rw [HRR.out, ← HF.out]; exact hst
end Go.Proofs.YtfildbkkmnfekaaGreatDoor
