/- A letter with a number. -/
import Derived.Test.YtfildbkkmnfekaaGreatDoorMenA
import Derived.WalkKit
import Derived.WalkSpells
import Derived.WalkLawsBesides
import Derived.BigGuardPart
import Derived.Lib.Hide
import Derived.Deep.QuietTactic
import Derived.BigQuiet
import Derived.StillTailTactics
import Derived.Deep.DeepCutAuto
import Derived.Deep.CutBlock
import Derived.Laws.EntriesVeiled
namespace Go.Proofs.YtfildbkkmnfekaaGreatDoor
open Go.RowKit

/-- The digits of a number; none for 0. -/
def tailN (n : Nat) : List UInt8 := if n = 0 then [] else Lib.decDigits n
theorem tailN_step {n : Nat} (h : 0 < n) : tailN n = tailN (n / 10) ++ [UInt8.ofNat (48 + n % 10)] := by
  unfold tailN
  rw [if_neg (by omega), Lib.decDigits]
  by_cases h1 : n < 10
  · rw [dif_pos h1, if_pos (by omega)]
    simp [Nat.mod_eq_of_lt h1]
  · rw [dif_neg h1, if_neg (by omega)]
theorem cons_app (x : UInt8) (t : List UInt8) : (⟨#[x]⟩ ++ ⟨t.toArray⟩ : ByteArray) = ⟨(x :: t).toArray⟩ := by
  apply ByteArray.ext; simp
/-- A letter with a number behind it, but for 0. -/
def numB (a : ByteArray) (n : Nat) : ByteArray := a ++ ⟨(tailN n).toArray⟩
set_option maxHeartbeats 1000000 in
set_option maxRecDepth 100000 in
theorem refnumbered_any (a : ByteArray) (n : Nat) (hn : n < 1000000000) (ha : a.size < 1000000) (w : World) :
    Calls Tryz.prog 97 #[.string a, .int .i64 n] w fun e w' => e = .returned (.string (numB a n)) ∧ Below w.heap.size w w' := by
  go_enter Tryz.func97, Tryz.ntmps97
  go_wp2_with fail
  go_loopw [5, 6] (fun s5 s6 wr => ∃ (k : Nat) (t : List UInt8), k + t.length ≤ n ∧ s6 = .int .i64 k ∧ s5 = .string ⟨t.toArray⟩ ∧ Hid (tailN k ++ t = tailN n) ∧ Below w.heap.size w wr)
    (fun _ s6 _ => (intOf s6).toNat)
  case atStart => exact ⟨n, [], Nat.le_refl _, rfl, rfl, Lib.hid (by simp), Below.refl _ _⟩
  case round =>
    obtain ⟨k, t, hk, rfl, rfl, HL, hbr⟩ := hrel
    by_cases h0 : 0 < k
    · have hd : decide (0 < k) = true := by simp; omega
      have hL : decide (9223372036854775807 < 1 + t.length) = false := by simp; omega
      obtain ⟨wz, hz, hblk, hsz, hbz⟩ := alloc_facts wr (.cells #[.int .u8 (48 + (k : Int) % 10)] 5)
      have hc : (convert 69 9 (.slice (some ⟨wr.heap.size, 0, none⟩) 1 1)).run Tryz.prog wz = .ok (.string ⟨#[UInt8.ofNat (48 + k % 10)]⟩) wz := by
        refine run_convert_bytes_back wz 69 9 5 ⟨wr.heap.size, 0, none⟩ 1 [UInt8.ofNat (48 + k % 10)] (by kernel_rfl) (by kernel_rfl) (by kernel_rfl) ?_
        intro j hj
        have hj0 : j = 0 := by simp at hj; omega
        subst hj0
        rw [add_zero']
        rw [(blk1 hblk)]
        have : 48 + k % 10 < 256 := by omega
        simp [UInt8.toNat_ofNat', Nat.mod_eq_of_lt this]
      clear hblk
      go_wp2_with fail
      go_roundw
      case rel => exact ⟨k / 10, UInt8.ofNat (48 + k % 10) :: t, by simp; omega, by go_num, congrArg Value.string ((congrArg (fun x => (⟨#[x]⟩ ++ ⟨t.toArray⟩ : ByteArray)) (show (48 + UInt8.ofNat (k % 10)) = UInt8.ofNat (48 + k % 10) by simp)).trans (cons_app _ _)), Lib.hid (by rw [← HL.out, tailN_step h0]; simp), hbr.trans (hbz.mono hbr.size)⟩
      case measure => simp [intOf]; omega
    · have hk0 : k = 0 := by omega
      subst hk0
      have hL : decide (9223372036854775807 < a.size + t.length) = false := by simp; omega
      go_wp2_with fail
      go_ret
      exact ⟨by rw [numB, ← HL.out]; simp [tailN], hbr⟩
end Go.Proofs.YtfildbkkmnfekaaGreatDoor
