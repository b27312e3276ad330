/- What the calls of shown return, reckoned. -/
import Derived.Test.YtfildbkkmnfekaaGreatDoorWitA
import Derived.Test.YtfildbkkmnfekaaGreatDoorComb
import Derived.Test.YtfildbkkmnfekaaGreatDoorCelA
import Derived.Test.YtfildbkkmnfekaaGreatDoorSameA
import Derived.KernelRfl
import Derived.WalkKit
import Derived.WalkSpells
import Derived.WalkLawsBesides
import Derived.BigGuardPart
import Derived.Lib.Hide
import Derived.Deep.QuietTactic
import Derived.BigQuiet
import Derived.StillTailTactics
import Derived.Deep.DeepCutAuto
import Derived.Deep.CutBlock
import Derived.Laws.EntriesVeiled
namespace Go.Proofs.YtfildbkkmnfekaaGreatDoor
open Go.RowKit

def x1B : ByteArray := ⟨#[120, 49]⟩
def aB : ByteArray := ⟨#[97]⟩
def bB : ByteArray := ⟨#[98]⟩
def yB : ByteArray := ⟨#[121]⟩
theorem firstOf_zero {t : Nat → Bool} (h : t 0 = false) : firstOf t = 0 :=
  first_unique (firstOf_spec (N := 0) ⟨0, Nat.le_refl _, h⟩).1 ⟨h, fun j hj => by omega⟩
theorem firstOf_one {t : Nat → Bool} (h0 : t 0 = true) (h : t 1 = false) : firstOf t = 1 :=
  first_unique (firstOf_spec (N := 1) ⟨1, Nat.le_refl _, h⟩).1 ⟨h, fun j hj => by rw [show j = 0 by omega]; exact h0⟩
theorem numB_one : numB xB 1 = x1B := by
  unfold numB
  rw [tailN_step (by omega)]
  rfl
/-- The fresh name of a space where x1 is not mentioned. -/
def freshK (st : List Nm) (a : ByteArray) : Nm := if inNs st a xB then (a, x1B) else (a, xB)
theorem inNs_x1 {st : List Nm} (h : st.all (fun n => !eqS n.2 x1B) = true) (a : ByteArray) : inNs st a x1B = false := by
  cases e : inNs st a x1B with
  | false => rfl
  | true =>
    have := (List.all_eq_true.1 h) _ ((inNs_iff _ _ _).1 e)
    rw [eqS_iff.2 rfl] at this; cases this
theorem fresh_k {st av : List Nm} (h : (st ++ av).all (fun n => !eqS n.2 x1B) = true) (a : ByteArray) : freshN st av a = freshK (st ++ av) a := by
  have e : ∀ i, takenN st av a i = inNs (st ++ av) a (numB xB i) := fun i => by
    rw [Bool.eq_iff_iff, takenN_iff, inNs_iff]
  unfold freshN freshK
  cases h0 : inNs (st ++ av) a xB with
  | true =>
    rw [firstOf_one (by rw [e, numB_zero, h0]) (by rw [e, numB_one, inNs_x1 h]), numB_one]; rfl
  | false =>
    rw [firstOf_zero (by rw [e, numB_zero, h0]), numB_zero]; rfl
theorem new_k {st : List ByteArray} (h : inSs st uB = false) : newS st = uB := by
  unfold newS
  rw [firstOf_zero (by unfold takenS; rw [numB_zero]; exact h), numB_zero]
def candK (m : Men) (av : List Nm) : List Nm := m.1 ++ m.2.map (freshK (m.1 ++ av)) ++ [freshK (m.1 ++ av) uB]
theorem cand_k {m : Men} {av : List Nm} (h : (m.1 ++ av).all (fun n => !eqS n.2 x1B) = true) (h2 : inSs m.2 uB = false) : candN m av = candK m av := by
  unfold candN candK
  rw [new_k h2, fresh_k h, show freshN m.1 av = freshK (m.1 ++ av) from funext fun a => fresh_k h a]
def oddK (f : Nm → Bool) (names : List Nm) (wide : Bool) (s : ByteArray) : List Cls :=
  if f (freshK names s) = wide then sglL f s (f (freshK names s)) names else [spC s (sglL f s (f (freshK names s)) names)]
def outK (f : Nm → Bool) (m : Men) : Cls := outC (f (freshK m.1 uB)) (m.2.flatMap (oddK f m.1 (f (freshK m.1 uB))))
theorem normF_k {chk : Cls → Int} {f : Nm → Bool} {m : Men} (h : m.1.all (fun n => !eqS n.2 x1B) = true) (h2 : inSs m.2 uB = false) : normF chk f m = if chk (outK f m) = 0 then (outK f m, 0) else (zeroC, 3) := by
  have hf : freshN m.1 [] = freshK m.1 := funext fun a => by rw [fresh_k (by simpa using h) a, List.append_nil]
  unfold normF outK oddL
  rw [new_k h2, hf]
  have : oddS f m.1 (f (freshK m.1 uB)) = oddK f m.1 (f (freshK m.1 uB)) := by
    funext s; unfold oddS oddK; rw [hf]
  rw [this]
def nC (a b : ByteArray) : Cls := .mk 1 a b ⟨#[]⟩ [] []
def sC (s : ByteArray) (ex : List Cls) : Cls := .mk 2 ⟨#[]⟩ ⟨#[]⟩ s ex []
def chC (l : List Cls) : Cls := .mk 4 ⟨#[]⟩ ⟨#[]⟩ ⟨#[]⟩ [] l
def in1 : Cls := chC [nC aB xB, nC bB yB, nC aB bB]
def out1 : Cls := chC [nC aB bB, nC aB xB, nC bB yB]
theorem shown1 : resF (chkR in1) (normF chkR (fHow 0 in1 in1) (addL [in1, in1] ([], []))) = (out1, 0) := by
  rw [normF_k (by kernel_rfl) (by kernel_rfl)]; kernel_rfl
def all2 : Cls := anyC [sC aB []]
def out2 : Cls := anyC [sC aB [nC aB xB]]
theorem shown2 : resF (orE (chkR all2) (chkR (nC aB xB))) (normF chkR (fHow 1 all2 (nC aB xB)) (addL [all2, nC aB xB] ([], []))) = (out2, 0) := by
  rw [normF_k (by kernel_rfl) (by kernel_rfl)]; kernel_rfl
def out3 : Cls := anyC [anyC []]
theorem shown3 : resF (orE (chkR (nC aB xB)) (chkR (anyC []))) (normF chkR (fHow 3 (nC aB xB) (anyC [])) (addL [nC aB xB, anyC []] ([], []))) = (out3, 0) := by
  rw [normF_k (by kernel_rfl) (by kernel_rfl)]; kernel_rfl
theorem shown4 : witR all2 [] = ((⟨#[117]⟩, ⟨#[120]⟩), 0) := by
  unfold witR; rw [cand_k (by kernel_rfl) (by kernel_rfl)]; kernel_rfl
def cells5 : List (Nm × List Bool) := [((aB, xB), [true, true]), ((aB, x1B), [false, true]), ((uB, xB), [false, false])]
theorem shown5 : cellsR [nC aB xB, sC aB []] = (cells5, 0) := by
  unfold cellsR; rw [cand_k (by kernel_rfl) (by kernel_rfl)]; kernel_rfl
theorem shown6 : witR (nC aB xB) [(aB, xB)] = ((⟨#[]⟩, ⟨#[]⟩), 4) := by
  unfold witR; rw [cand_k (by kernel_rfl) (by kernel_rfl)]; kernel_rfl
theorem same1 : sameC 40 out1 (chC [nC aB bB, nC aB xB, nC bB yB]) = true := by kernel_rfl
theorem same2 : sameC 40 out2 (anyC [sC aB [nC aB xB]]) = true := by kernel_rfl
theorem same3 : sameC 40 out3 (anyC [anyC []]) = true := by kernel_rfl
end Go.Proofs.YtfildbkkmnfekaaGreatDoor
