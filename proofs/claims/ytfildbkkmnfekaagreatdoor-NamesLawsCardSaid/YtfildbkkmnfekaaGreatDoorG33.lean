/- The sequence of the candidates. The functions that the walk over the candidates calls. -/
import Derived.Test.YtfildbkkmnfekaaGreatDoorCdIt
import Derived.Test.YtfildbkkmnfekaaGreatDoorG26
import Derived.RangeFuncNested
import Derived.RangeFuncBound
import Derived.RangeFuncCalls
import Derived.RangeFuncLeaves
import Derived.Shelf.Abstract
import Derived.Shelf.RegionOpen
import Derived.WalkKit
import Derived.OwnWalkIn
import Derived.TacticsInMore
import Derived.LoopNIn
import Derived.LoopIn
import Derived.Lib.Hide
import Derived.WalkSpells
import Derived.WalkLawsBesides
import Derived.Deep.DeepFit
import Derived.Lib.AppendIntMem
namespace Go.Proofs.YtfildbkkmnfekaaGreatDoor
open Go.RowKit Go.Shelf
attribute [local go_sem] Oper.semAt_some

theorem candidates_any (g1 g2 : Nat) (w : World) :
    Calls Tryz.prog 45 #[.agg #[.map (some g1), .map (some g2)]] w fun e w' => e = .returned (.func (.func 75) #[] #[.pointer (some ⟨w.heap.size, 0, none⟩)]) ∧ w'.heap[w.heap.size]? = some (.cells #[.map (some g1), .map (some g2)] 66) ∧ Below w.heap.size w w' := by
  go_enter Tryz.func45, Tryz.ntmps45
  go_wp2
  go_ret
  exact ⟨rfl, heap_alloc_new _ _, (Below.refl _ _).alloc (Nat.le_refl _) _⟩
end Go.Proofs.YtfildbkkmnfekaaGreatDoor
namespace Go.Proofs.YtfildbkkmnfekaaGreatDoor
open Go.RowKit Go.Shelf
attribute [local go_sem] Oper.semAt_some

/-- The names and the spaces, in order. -/
def srtN (l : List Nm) : List Nm := l.mergeSort fun x y => !ltN y x
def srtS (l : List ByteArray) : List ByteArray := l.mergeSort fun x y => !ltS y x
theorem ltN_asym {x y : Nm} (h : ltN x y = true) : ltN y x = false := by
  cases e : ltN y x with
  | false => rfl
  | true => have := ltN_trans h e; rw [ltN_irrefl] at this; cases this
theorem ltS_asym {x y : ByteArray} (h : ltS x y = true) : ltS y x = false := by
  cases e : ltS y x with
  | false => rfl
  | true => have := ltS_trans h e; rw [ltS_irrefl] at this; cases this
theorem ltS_ntrans {x y z : ByteArray} (h : ltS x y = false) (k : ltS y z = false) : ltS x z = false := by
  cases e : ltS x z with
  | false => rfl
  | true =>
    cases e2 : ltS z y with
    | true => have := ltS_trans e e2; rw [h] at this; cases this
    | false => have := ltS_total k e2; subst this; rw [h] at e; cases e
theorem srtN_eq {l ns : List Nm} (hp : ns.Perm l) (hs : ns.Pairwise fun x y => ltN y x = false) : ns = srtN l := by
  refine List.Perm.eq_of_pairwise (le := fun x y => ltN y x = false) (fun a b _ _ h k => ltN_total k h) hs ?_ (hp.trans (List.mergeSort_perm _ _).symm)
  refine (List.pairwise_mergeSort (le := fun x y => !ltN y x) (fun a b c h k => ?_) (fun a b => ?_) l).imp fun h => by simpa using h
  · simp only [Bool.not_eq_true'] at *; exact ltN_ntrans k h
  · cases e : ltN b a with
    | false => simp
    | true => simp [ltN_asym e]
theorem srtS_eq {l ns : List ByteArray} (hp : ns.Perm l) (hs : ns.Pairwise fun x y => ltS y x = false) : ns = srtS l := by
  refine List.Perm.eq_of_pairwise (le := fun x y => ltS y x = false) (fun a b _ _ h k => ltS_total k h) hs ?_ (hp.trans (List.mergeSort_perm _ _).symm)
  refine (List.pairwise_mergeSort (le := fun x y => !ltS y x) (fun a b c h k => ?_) (fun a b => ?_) l).imp fun h => by simpa using h
  · simp only [Bool.not_eq_true'] at *; exact ltS_ntrans k h
  · cases e : ltS b a with
    | false => simp
    | true => simp [ltS_asym e]
theorem candFns_of (g1 g2 : Nat) (m : Ment) (hn1 : m.1.length < 1000000) (hn2 : m.2.length < 1000000) (hs2 : ∀ p ∈ m.2, p.1.size ≤ 1000000) (hk2 : NodupK m.2) (I0 : Nat) (hI : IsFirst (fun i => (look eqS (numB uB i) m.2).getD false) I0) (hIb : I0 < 10000000)
    (f : ByteArray → Nat) (hf : ∀ a, IsFirst (fun i => (look eqN (a, numB xB i) m.1).isSome) (f a)) (hfb : ∀ a, f a < 10000000) :
    CandFns g1 g2 m (srtN (namesOf m.1)) (srtS (m.2.map (·.1))) (numB uB I0) (fun a => numB xB (f a)) where
  known W hM := by
    refine (known_any g1 g2 m W hM hn1 hn2 hs2 hk2).mono ?_
    rintro e w' ⟨A, n, c, ns, v2, ts, mid, rfl, hp, hs, hr, hc, ho, hp2, hs2, h1, h2, h3⟩
    rw [srtN_eq hp hs] at hr; rw [srtS_eq hp2 hs2] at ho
    exact ⟨A, n, c, v2, mid, rfl, hr, hc, ho, h1, h2, h3⟩
  other W hM hT := other_any g1 g2 m W hM hT I0 hI hIb
  fresh s W hM hT := fresh_any g1 g2 m s W hM hT (f s) (hf s) (hfb s)
end Go.Proofs.YtfildbkkmnfekaaGreatDoor
