/- What size and Count return of a class. -/
import Derived.Test.YtfildbkkmnfekaaGreatDoorRep
import Derived.WalkKit
import Derived.WalkSpells
import Derived.WalkLawsBesides
import Derived.BigGuardPart
import Derived.Lib.Hide
import Derived.Deep.QuietTactic
import Derived.BigQuiet
import Derived.StillTailTactics
namespace Go.Proofs.YtfildbkkmnfekaaGreatDoor
open Go.RowKit

mutual
def sizeC : Nat → Cls → Nat
  | 0, _ => 100000
  | r + 1, .mk _ ns nl s ex ar => if 1000 < nl.size ∨ 1000 < ns.size ∨ 1000 < s.size then 100000 else sizeL r (sizeL r 1 ex) ar
def sizeL : Nat → Nat → List Cls → Nat
  | _, n, [] => n
  | r, n, c :: l => if n < 100000 then sizeL r (n + sizeC r c) l else n
end
mutual
theorem sizeC_le : ∀ (c : Cls) (r : Nat), sizeC r c ≤ 100000 * (r + 1)
  | .mk k ns nl s ex ar, 0 => by simp [sizeC]
  | .mk k ns nl s ex ar, r + 1 => by
    rw [sizeC]
    have h1 := sizeL_le ex r 1
    have h2 := sizeL_le ar r (sizeL r 1 ex)
    split <;> omega
theorem sizeL_le : ∀ (l : List Cls) (r n : Nat), sizeL r n l ≤ max n (100000 + 100000 * (r + 1))
  | [], r, n => by rw [sizeL]; omega
  | c :: l, r, n => by
    rw [sizeL]
    split
    · have h1 := sizeC_le c r
      have h2 := sizeL_le l r (n + sizeC r c)
      omega
    · omega
end
theorem sizeL_step {r nn i : Nat} {l : List Cls} {c : Cls} {R : Nat} (hc : l[i]? = some c) (hn : nn < 100000) (h : sizeL r nn (l.drop i) = R) : sizeL r (nn + sizeC r c) (l.drop (i + 1)) = R := by
  obtain ⟨hi, hc⟩ := List.getElem?_eq_some_iff.1 hc
  rw [List.drop_eq_getElem_cons hi, hc, sizeL, if_pos hn] at h
  exact h
theorem sizeL_end {r nn i : Nat} {l : List Cls} {R : Nat} (hn : 100000 ≤ nn ∨ l.length ≤ i) (h : sizeL r nn (l.drop i) = R) : nn = R := by
  rcases hn with hn | hn
  · cases hd : l.drop i with
    | nil => rw [hd, sizeL] at h; exact h
    | cons c l' => rw [hd, sizeL, if_neg (by omega)] at h; exact h
  · rw [List.drop_eq_nil_of_le hn, sizeL] at h; exact h

mutual
def countC : Nat → Cls → Nat
  | 0, _ => 100000
  | r + 1, .mk _ _ _ _ ex ar => countL r (countL r 1 ex) ar
def countL : Nat → Nat → List Cls → Nat
  | _, n, [] => n
  | r, n, c :: l => if n < 100000 then countL r (n + countC r c) l else n
end
mutual
theorem countC_le : ∀ (c : Cls) (r : Nat), countC r c ≤ 100000 * (r + 1)
  | .mk k ns nl s ex ar, 0 => by simp [countC]
  | .mk k ns nl s ex ar, r + 1 => by
    rw [countC]
    have h1 := countL_le ex r 1
    have h2 := countL_le ar r (countL r 1 ex)
    omega
theorem countL_le : ∀ (l : List Cls) (r n : Nat), countL r n l ≤ max n (100000 + 100000 * (r + 1))
  | [], r, n => by rw [countL]; omega
  | c :: l, r, n => by
    rw [countL]
    split
    · have h1 := countC_le c r
      have h2 := countL_le l r (n + countC r c)
      omega
    · omega
end
theorem countL_step {r nn i : Nat} {l : List Cls} {c : Cls} {R : Nat} (hc : l[i]? = some c) (hn : nn < 100000) (h : countL r nn (l.drop i) = R) : countL r (nn + countC r c) (l.drop (i + 1)) = R := by
  obtain ⟨hi, hc⟩ := List.getElem?_eq_some_iff.1 hc
  rw [List.drop_eq_getElem_cons hi, hc, countL, if_pos hn] at h
  exact h
theorem countL_end {r nn i : Nat} {l : List Cls} {R : Nat} (hn : 100000 ≤ nn ∨ l.length ≤ i) (h : countL r nn (l.drop i) = R) : nn = R := by
  rcases hn with hn | hn
  · cases hd : l.drop i with
    | nil => rw [hd, countL] at h; exact h
    | cons c l' => rw [hd, countL, if_neg (by omega)] at h; exact h
  · rw [List.drop_eq_nil_of_le hn, countL] at h; exact h

set_option maxHeartbeats 1000000 in
set_option maxRecDepth 100000 in
theorem size_any : ∀ (r : Nat) (c : Cls) (cs : List Value) (w : World) (F : Nat → Prop), RepC w F c cs → r < 1000 →
    Calls Tryz.prog 42 #[.agg cs.toArray, .int .i64 r] w fun e w' => e = .returned (.int .i64 (sizeC r c)) ∧ Below w.heap.size w w' := by
  intro r
  induction r with
  | zero =>
    rintro ⟨k, ns, nl, s, ex, ar⟩ cs w F hr hr0
    obtain ⟨A, n, c, A', n', c', rfl, hl, hl', h1, h2⟩ := hr.here.form
    go_enter Tryz.func42, Tryz.ntmps42
    go_wp2
    go_ret
    exact ⟨rfl, (Below.refl _ _).alloc (Nat.le_refl _) _⟩
  | succ r ih =>
    rintro ⟨k, ns, nl, s, ex, ar⟩ cs w F hr hr0
    obtain ⟨A, n, c, A', n', c', rfl, hl, hl', h1, h2⟩ := hr.here.form
    have HIH := Lib.hid ih; clear ih hr
    obtain ⟨w1, hw1, hblk, hsz, hb1⟩ := alloc_facts w (.cells #[.int .i64 k, .string ns, .string nl, .string s, .slice A n c, .slice A' n' c'] 28)
    obtain ⟨q0, q1, q2, q3, q4, q5⟩ := blk6 hblk
    have HB := Lib.hid hblk; clear hblk
    have hr1 : decide ((r : Int) + 1 < 1) = false := by simp; omega
    rw [show ((r + 1 : Nat) : Int) = (r : Int) + 1 from rfl]
    go_enter Tryz.func42, Tryz.ntmps42
    go_wp2_with fail
    · go_ret
      exact ⟨by rw [sizeC, if_pos (by omega)]; rfl, hb1⟩
    · go_ret
      exact ⟨by rw [sizeC, if_pos (by omega)]; rfl, hb1⟩
    · go_ret
      exact ⟨by rw [sizeC, if_pos (by omega)]; rfl, hb1⟩
    · have hs : ¬ (1000 < nl.size ∨ 1000 < ns.size ∨ 1000 < s.size) := by omega
      obtain ⟨R1, hR1⟩ : ∃ R1, sizeL r 1 ex = R1 := ⟨_, rfl⟩
      obtain ⟨R, hR⟩ : ∃ R, sizeL r R1 ar = R := ⟨_, rfl⟩
      have HR : Hid (sizeC (r + 1) (Cls.mk k ns nl s ex ar) = R) := by rw [sizeC, if_neg hs]; rw [hR1, hR]; exact rfl
      have hRb : R1 ≤ 200000000 := by have := sizeL_le ex r 1; omega
      have HR1 := Lib.hid hR1; have HR2 := Lib.hid hR; have HW := Lib.hid hw1
      clear hR1 hR hw1 q0 q1 q2 q3 q4 q5
      go_loopw [5, 6] (fun sn si wr => ∃ i nn : Nat, i ≤ n ∧ si = .int .i64 i ∧ sn = .int .i64 nn ∧ nn ≤ 200000000 ∧ Hid (sizeL r nn (ex.drop i) = R1) ∧ Below w1.heap.size w1 wr)
        (fun _ si _ => n - (intOf si).toNat)
      case atStart => exact ⟨0, 1, by omega, rfl, rfl, by omega, HR1, Below.refl _ _⟩
      case round =>
        obtain ⟨i, nn, hi, rfl, rfl, hnb, HL, hbw⟩ := hrel
        obtain ⟨q0, q1, q2, q3, q4, q5⟩ := blk6 ((hbw.block _ hsz).trans HB.out)
        clear q0 q1 q2 q3
        by_cases hgo : i < n ∧ nn < 100000
        · obtain ⟨hlt, hnn⟩ := hgo
          obtain ⟨b, off, ch, v0, v1, v2, v3, v4, v5, HX, hrc, p0, p1, p2, p3, p4, p5, hix⟩ := h1.round (hb1.seq hbw) hlt c
          have hd : decide ((nn : Int) < 100000) = true := by simp; omega
          have hsb := sizeC_le ch r
          go_wp2_with fail
          refine (HIH.out _ _ _ _ hrc (by omega)).mono ?_
          rintro e w2 ⟨rfl, hb2⟩
          go_wp2_with fail
          go_roundw
          case rel => exact ⟨i + 1, nn + sizeC r _, by omega, by go_num, by go_num, by omega, sizeL_step HX.out hnn HL.out, hbw.trans (hb2.mono hbw.size)⟩
          case measure => simp [intOf]; omega
        · have HE : Hid (nn = R1) := sizeL_end (by have := h1.len; omega) HL.out
          rcases (show (decide (i < n) = false) ∨ (i < n ∧ decide ((nn : Int) < 100000) = false) by simp; omega) with hd | ⟨hlt, hd⟩
          all_goals
            clear hgo
            go_wp2_with fail
            go_loopw [5, 7] (fun sn si wr => ∃ i nn : Nat, i ≤ n' ∧ si = .int .i64 i ∧ sn = .int .i64 nn ∧ nn ≤ 200000000 ∧ Hid (sizeL r nn (ar.drop i) = R) ∧ Below w1.heap.size w1 wr)
              (fun _ si _ => n' - (intOf si).toNat)
            case atStart => exact ⟨0, nn, by omega, rfl, rfl, by omega, by rw [HE.out]; exact HR2, hbw⟩
            case round =>
              clear hd q4 q5 HE HL hbw hi
              obtain ⟨i, nn, hi, rfl, rfl, hnb', HL, hbw⟩ := hrel
              obtain ⟨q0, q1, q2, q3, q4, q5⟩ := blk6 ((hbw.block _ hsz).trans HB.out)
              clear q0 q1 q2 q3
              by_cases hgo : i < n' ∧ nn < 100000
              · obtain ⟨hlt, hnn⟩ := hgo
                obtain ⟨b, off, ch, v0, v1, v2, v3, v4, v5, HX, hrc, p0, p1, p2, p3, p4, p5, hix⟩ := h2.round (hb1.seq hbw) hlt c'
                have hd : decide ((nn : Int) < 100000) = true := by simp; omega
                have hsb := sizeC_le ch r
                go_wp2_with fail
                refine (HIH.out _ _ _ _ hrc (by omega)).mono ?_
                rintro e w2 ⟨rfl, hb2⟩
                go_wp2_with fail
                go_roundw
                case rel => exact ⟨i + 1, nn + sizeC r _, by omega, by go_num, by go_num, by omega, sizeL_step HX.out hnn HL.out, hbw.trans (hb2.mono hbw.size)⟩
                case measure => simp [intOf]; omega
              · have HE : Hid (nn = R) := sizeL_end (by have := h2.len; omega) HL.out
                rcases (show (decide (i < n') = false) ∨ (i < n' ∧ decide ((nn : Int) < 100000) = false) by simp; omega) with hd | ⟨hlt, hd⟩
                all_goals
                  clear hgo
                  go_wp2_with fail
                  go_ret
                  exact ⟨ret_nat (HE.out.trans HR.out.symm), hb1.seq hbw⟩
set_option maxHeartbeats 1000000 in
set_option maxRecDepth 100000 in
theorem count_any : ∀ (r : Nat) (c : Cls) (cs : List Value) (w : World) (F : Nat → Prop), RepC w F c cs → r < 1000 →
    Calls Tryz.prog 53 #[.agg cs.toArray, .int .i64 r] w fun e w' => e = .returned (.int .i64 (countC r c)) ∧ Below w.heap.size w w' := by
  intro r
  induction r with
  | zero =>
    rintro ⟨k, ns, nl, s, ex, ar⟩ cs w F hr hr0
    obtain ⟨A, n, c, A', n', c', rfl, hl, hl', h1, h2⟩ := hr.here.form
    go_enter Tryz.func53, Tryz.ntmps53
    go_wp2
    go_ret
    exact ⟨rfl, (Below.refl _ _).alloc (Nat.le_refl _) _⟩
  | succ r ih =>
    rintro ⟨k, ns, nl, s, ex, ar⟩ cs w F hr hr0
    obtain ⟨A, n, c, A', n', c', rfl, hl, hl', h1, h2⟩ := hr.here.form
    have HIH := Lib.hid ih; clear ih hr
    obtain ⟨w1, hw1, hblk, hsz, hb1⟩ := alloc_facts w (.cells #[.int .i64 k, .string ns, .string nl, .string s, .slice A n c, .slice A' n' c'] 28)
    obtain ⟨q0, q1, q2, q3, q4, q5⟩ := blk6 hblk
    have HB := Lib.hid hblk; clear hblk
    have hr1 : decide ((r : Int) + 1 < 1) = false := by simp; omega
    rw [show ((r + 1 : Nat) : Int) = (r : Int) + 1 from rfl]
    go_enter Tryz.func53, Tryz.ntmps53
    go_wp2_with fail
    · obtain ⟨R1, hR1⟩ : ∃ R1, countL r 1 ex = R1 := ⟨_, rfl⟩
      obtain ⟨R, hR⟩ : ∃ R, countL r R1 ar = R := ⟨_, rfl⟩
      have HR : Hid (countC (r + 1) (Cls.mk k ns nl s ex ar) = R) := by rw [countC]; rw [hR1, hR]; exact rfl
      have hRb : R1 ≤ 200000000 := by have := countL_le ex r 1; omega
      have HR1 := Lib.hid hR1; have HR2 := Lib.hid hR; have HW := Lib.hid hw1
      clear hR1 hR hw1 q0 q1 q2 q3 q4 q5
      go_loopw [5, 6] (fun sn si wr => ∃ i nn : Nat, i ≤ n ∧ si = .int .i64 i ∧ sn = .int .i64 nn ∧ nn ≤ 200000000 ∧ Hid (countL r nn (ex.drop i) = R1) ∧ Below w1.heap.size w1 wr)
        (fun _ si _ => n - (intOf si).toNat)
      case atStart => exact ⟨0, 1, by omega, rfl, rfl, by omega, HR1, Below.refl _ _⟩
      case round =>
        obtain ⟨i, nn, hi, rfl, rfl, hnb, HL, hbw⟩ := hrel
        obtain ⟨q0, q1, q2, q3, q4, q5⟩ := blk6 ((hbw.block _ hsz).trans HB.out)
        clear q0 q1 q2 q3
        by_cases hgo : i < n ∧ nn < 100000
        · obtain ⟨hlt, hnn⟩ := hgo
          obtain ⟨b, off, ch, v0, v1, v2, v3, v4, v5, HX, hrc, p0, p1, p2, p3, p4, p5, hix⟩ := h1.round (hb1.seq hbw) hlt c
          have hd : decide ((nn : Int) < 100000) = true := by simp; omega
          have hsb := countC_le ch r
          go_wp2_with fail
          refine (HIH.out _ _ _ _ hrc (by omega)).mono ?_
          rintro e w2 ⟨rfl, hb2⟩
          go_wp2_with fail
          go_roundw
          case rel => exact ⟨i + 1, nn + countC r _, by omega, by go_num, by go_num, by omega, countL_step HX.out hnn HL.out, hbw.trans (hb2.mono hbw.size)⟩
          case measure => simp [intOf]; omega
        · have HE : Hid (nn = R1) := countL_end (by have := h1.len; omega) HL.out
          rcases (show (decide (i < n) = false) ∨ (i < n ∧ decide ((nn : Int) < 100000) = false) by simp; omega) with hd | ⟨hlt, hd⟩
          all_goals
            clear hgo
            go_wp2_with fail
            go_loopw [5, 7] (fun sn si wr => ∃ i nn : Nat, i ≤ n' ∧ si = .int .i64 i ∧ sn = .int .i64 nn ∧ nn ≤ 200000000 ∧ Hid (countL r nn (ar.drop i) = R) ∧ Below w1.heap.size w1 wr)
              (fun _ si _ => n' - (intOf si).toNat)
            case atStart => exact ⟨0, nn, by omega, rfl, rfl, by omega, by rw [HE.out]; exact HR2, hbw⟩
            case round =>
              clear hd q4 q5 HE HL hbw hi
              obtain ⟨i, nn, hi, rfl, rfl, hnb', HL, hbw⟩ := hrel
              obtain ⟨q0, q1, q2, q3, q4, q5⟩ := blk6 ((hbw.block _ hsz).trans HB.out)
              clear q0 q1 q2 q3
              by_cases hgo : i < n' ∧ nn < 100000
              · obtain ⟨hlt, hnn⟩ := hgo
                obtain ⟨b, off, ch, v0, v1, v2, v3, v4, v5, HX, hrc, p0, p1, p2, p3, p4, p5, hix⟩ := h2.round (hb1.seq hbw) hlt c'
                have hd : decide ((nn : Int) < 100000) = true := by simp; omega
                have hsb := countC_le ch r
                go_wp2_with fail
                refine (HIH.out _ _ _ _ hrc (by omega)).mono ?_
                rintro e w2 ⟨rfl, hb2⟩
                go_wp2_with fail
                go_roundw
                case rel => exact ⟨i + 1, nn + countC r _, by omega, by go_num, by go_num, by omega, countL_step HX.out hnn HL.out, hbw.trans (hb2.mono hbw.size)⟩
                case measure => simp [intOf]; omega
              · have HE : Hid (nn = R) := countL_end (by have := h2.len; omega) HL.out
                rcases (show (decide (i < n') = false) ∨ (i < n' ∧ decide ((nn : Int) < 100000) = false) by simp; omega) with hd | ⟨hlt, hd⟩
                all_goals
                  clear hgo
                  go_wp2_with fail
                  go_ret
                  exact ⟨ret_nat (HE.out.trans HR.out.symm), hb1.seq hbw⟩
end Go.Proofs.YtfildbkkmnfekaaGreatDoor
