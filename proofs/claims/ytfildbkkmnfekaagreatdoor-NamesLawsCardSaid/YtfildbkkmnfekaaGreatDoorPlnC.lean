/- Plain laws: what is mentioned in a class twice is what is mentioned in it once. -/
import Derived.Test.YtfildbkkmnfekaaGreatDoorPlnB
namespace Go.Proofs.YtfildbkkmnfekaaGreatDoor
open Go.RowKit

mutual
/-- The names, the spaces of a class, in the text's order. -/
def mnC : Cls → List Nm
  | .mk k ns nl _ ex ar => (if k = 1 then [(ns, nl)] else []) ++ mnL ex ++ mnL ar
def mnL : List Cls → List Nm
  | [] => []
  | c :: l => mnC c ++ mnL l
end
mutual
def msC : Cls → List ByteArray
  | .mk k ns _ s ex ar => (if k = 1 then [ns] else if k = 2 then [s] else []) ++ msL ex ++ msL ar
def msL : List Cls → List ByteArray
  | [] => []
  | c :: l => msC c ++ msL l
end
theorem mem_putN (l : List Nm) (x y : Nm) : y ∈ putN l x ↔ y = x ∨ y ∈ l := putA_mem eqN_iff
theorem mem_putS (l : List ByteArray) (x y : ByteArray) : y ∈ putS l x ↔ y = x ∨ y ∈ l := putA_mem eqS_iff'
mutual
theorem mem_addC : ∀ (c : Cls) (m : Men), (∀ x, x ∈ (addC c m).1 ↔ x ∈ mnC c ∨ x ∈ m.1) ∧ (∀ s, s ∈ (addC c m).2 ↔ s ∈ msC c ∨ s ∈ m.2)
  | .mk k ns nl s ex ar, m => by
    rw [addC]
    obtain ⟨h1, h2⟩ := mem_addL ar (addL ex (if k = 1 then (putN m.1 (ns, nl), putS m.2 ns) else if k = 2 then (m.1, putS m.2 s) else m))
    obtain ⟨h3, h4⟩ := mem_addL ex (if k = 1 then (putN m.1 (ns, nl), putS m.2 ns) else if k = 2 then (m.1, putS m.2 s) else m)
    refine ⟨fun x => ?_, fun x => ?_⟩
    · rw [h1, h3, mnC, List.mem_append, List.mem_append]
      by_cases e : k = 1
      · simp only [e, if_true, mem_putN, List.mem_singleton]
        exact ⟨fun h => by rcases h with h | h | h | h <;> simp [h], fun h => by rcases h with ((h | h) | h) | h <;> simp [h]⟩
      · by_cases e2 : k = 2
        · simp only [e2, if_true]
          simp only [show ¬ ((2 : Int) = 1) by decide, if_false, List.not_mem_nil, false_or]
          exact ⟨fun h => by rcases h with h | h | h <;> simp [h], fun h => by rcases h with (h | h) | h <;> simp [h]⟩
        · simp only [e, e2, if_false, List.not_mem_nil, false_or]
          exact ⟨fun h => by rcases h with h | h | h <;> simp [h], fun h => by rcases h with (h | h) | h <;> simp [h]⟩
    · rw [h2, h4, msC, List.mem_append, List.mem_append]
      by_cases e : k = 1
      · simp only [e, if_true, mem_putS, List.mem_singleton]
        exact ⟨fun h => by rcases h with h | h | h | h <;> simp [h], fun h => by rcases h with ((h | h) | h) | h <;> simp [h]⟩
      · by_cases e2 : k = 2
        · simp only [e2, if_true]
          simp only [show ¬ ((2 : Int) = 1) by decide, if_false, mem_putS, List.mem_singleton]
          exact ⟨fun h => by rcases h with h | h | h | h <;> simp [h], fun h => by rcases h with ((h | h) | h) | h <;> simp [h]⟩
        · simp only [e, e2, if_false, List.not_mem_nil, false_or]
          exact ⟨fun h => by rcases h with h | h | h <;> simp [h], fun h => by rcases h with (h | h) | h <;> simp [h]⟩
theorem mem_addL : ∀ (l : List Cls) (m : Men), (∀ x, x ∈ (addL l m).1 ↔ x ∈ mnL l ∨ x ∈ m.1) ∧ (∀ s, s ∈ (addL l m).2 ↔ s ∈ msL l ∨ s ∈ m.2)
  | [], m => by rw [addL, mnL, msL]; simp
  | c :: l, m => by
    rw [addL, mnL, msL]
    obtain ⟨h1, h2⟩ := mem_addL l (addC c m)
    obtain ⟨h3, h4⟩ := mem_addC c m
    refine ⟨fun x => ?_, fun x => ?_⟩
    · rw [h1, h3, List.mem_append]
      exact ⟨fun h => by rcases h with h | h | h <;> simp [h], fun h => by rcases h with (h | h) | h <;> simp [h]⟩
    · rw [h2, h4, List.mem_append]
      exact ⟨fun h => by rcases h with h | h | h <;> simp [h], fun h => by rcases h with (h | h) | h <;> simp [h]⟩
end
theorem asc_eqN {l l' : List Nm} (h : l.Pairwise fun x y => ltN x y = true) (h' : l'.Pairwise fun x y => ltN x y = true) (hm : ∀ x, x ∈ l ↔ x ∈ l') : l = l' := by
  have nd : l.Nodup := h.imp fun {a b} hab e => by subst e; rw [ltN_irrefl] at hab; cases hab
  have nd' : l'.Nodup := h'.imp fun {a b} hab e => by subst e; rw [ltN_irrefl] at hab; cases hab
  exact List.Perm.eq_of_pairwise (le := fun x y => ltN y x = false) (fun a b _ _ h k => ltN_total k h) (h.imp fun hab => ltN_asym hab) (h'.imp fun hab => ltN_asym hab) ((List.perm_ext_iff_of_nodup nd nd').2 hm)
theorem asc_eqS {l l' : List ByteArray} (h : l.Pairwise fun x y => ltS x y = true) (h' : l'.Pairwise fun x y => ltS x y = true) (hm : ∀ x, x ∈ l ↔ x ∈ l') : l = l' := by
  have nd : l.Nodup := h.imp fun {a b} hab e => by subst e; rw [ltS_irrefl] at hab; cases hab
  have nd' : l'.Nodup := h'.imp fun {a b} hab e => by subst e; rw [ltS_irrefl] at hab; cases hab
  exact List.Perm.eq_of_pairwise (le := fun x y => ltS y x = false) (fun a b _ _ h k => ltS_total k h) (h.imp fun hab => ltS_asym hab) (h'.imp fun hab => ltS_asym hab) ((List.perm_ext_iff_of_nodup nd nd').2 hm)
/-- What is mentioned depends on the members alone. -/
theorem addL_ext {l l' : List Cls} (h1 : ∀ x, x ∈ mnL l ↔ x ∈ mnL l') (h2 : ∀ s, s ∈ msL l ↔ s ∈ msL l') : addL l ([], []) = addL l' ([], []) := by
  have a := MRel.all [] l
  have b := MRel.all [] l'
  refine Prod.ext (asc_eqN a.asc1 b.asc1 fun x => ?_) (asc_eqS a.asc2 b.asc2 fun x => ?_)
  · rw [(mem_addL l _).1, (mem_addL l' _).1, h1]
  · rw [(mem_addL l _).2, (mem_addL l' _).2, h2]
theorem addL_twice (c : Cls) : addL [c, c] ([], []) = addL [c] ([], []) := by
  refine addL_ext (fun x => ?_) (fun x => ?_)
  · simp [mnL]
  · simp [msL]
end Go.Proofs.YtfildbkkmnfekaaGreatDoor
