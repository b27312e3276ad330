/- Plain laws: every name behaves as a candidate; what the cells hold. -/
import Derived.Test.YtfildbkkmnfekaaGreatDoorPlnC
import Derived.Test.YtfildbkkmnfekaaGreatDoorCelA
namespace Go.Proofs.YtfildbkkmnfekaaGreatDoor
open Go.RowKit

theorem eqS_congr {a b s : ByteArray} (h : a = s ↔ b = s) : eqS s a = eqS s b := by
  rw [Bool.eq_iff_iff, eqS_iff, eqS_iff]
  exact ⟨fun e => (h.1 e.symm).symm, fun e => (h.2 e.symm).symm⟩
mutual
/-- Whether a name is in a class depends on which of the mentioned names and spaces it is. -/
theorem inC_same {x y : Nm} : ∀ c : Cls, (∀ n ∈ mnC c, (x = n ↔ y = n)) → (∀ s ∈ msC c, (x.1 = s ↔ y.1 = s)) → inC c x.1 x.2 = inC c y.1 y.2
  | .mk k ns nl s ex ar, hn, hs => by
    rw [mnC] at hn
    rw [msC] at hs
    rw [inC, inC]
    have h1 := inH_same (x := x) (y := y) ex (fun n h => hn n (by simp [h])) (fun s h => hs s (by simp [h]))
    have h2 := inL_same (x := x) (y := y) ar (fun n h => hn n (by simp [h])) (fun s h => hs s (by simp [h]))
    rw [h1, h2]
    congr 1
    by_cases e1 : k = 1
    · have h3 := hn (ns, nl) (by simp [e1])
      rw [if_pos e1, if_pos e1, Bool.eq_iff_iff, Bool.and_eq_true, Bool.and_eq_true, eqS_iff, eqS_iff, eqS_iff, eqS_iff]
      constructor
      · rintro ⟨rfl, rfl⟩
        have := h3.1 rfl
        rw [this]; exact ⟨rfl, rfl⟩
      · rintro ⟨rfl, rfl⟩
        have := h3.2 rfl
        rw [this]; exact ⟨rfl, rfl⟩
    · rw [if_neg e1, if_neg e1]
      by_cases e2 : k = 2
      · rw [if_pos e2, if_pos e2]
        exact eqS_congr (hs s (by simp [e2]))
      · rw [if_neg e2, if_neg e2]
theorem inH_same {x y : Nm} : ∀ l : List Cls, (∀ n ∈ mnL l, (x = n ↔ y = n)) → (∀ s ∈ msL l, (x.1 = s ↔ y.1 = s)) → inH l x.1 x.2 = inH l y.1 y.2
  | [], _, _ => by rw [inH, inH]
  | c :: l, hn, hs => by
    rw [inH, inH]
    exact inC_same c (fun n h => hn n (by rw [mnL]; simp [h])) (fun s h => hs s (by rw [msL]; simp [h]))
theorem inL_same {x y : Nm} : ∀ l : List Cls, (∀ n ∈ mnL l, (x = n ↔ y = n)) → (∀ s ∈ msL l, (x.1 = s ↔ y.1 = s)) → inL l x.1 x.2 = inL l y.1 y.2
  | [], _, _ => by rw [inL, inL]
  | c :: l, hn, hs => by
    rw [inL, inL, inC_same c (fun n h => hn n (by rw [mnL]; simp [h])) (fun s h => hs s (by rw [msL]; simp [h])), inL_same l (fun n h => hn n (by rw [mnL]; simp [h])) (fun s h => hs s (by rw [msL]; simp [h]))]
end
theorem mnC_mem {c : Cls} : ∀ {l : List Cls}, c ∈ l → (∀ n ∈ mnC c, n ∈ mnL l) ∧ (∀ s ∈ msC c, s ∈ msL l)
  | d :: l, h => by
    rw [mnL, msL]
    rcases List.mem_cons.1 h with rfl | h
    · exact ⟨fun n h => by simp [h], fun s h => by simp [h]⟩
    · have := mnC_mem h
      exact ⟨fun n h => by simp [this.1 n h], fun s h => by simp [this.2 s h]⟩
theorem fresh_not (st av : List Nm) (a : ByteArray) : freshN st av a ∉ st ∧ freshN st av a ∉ av := by
  have h := (firstOf_spec (freeN st av a)).1.1
  have h2 : ¬ (a, numB xB (firstOf (takenN st av a))) ∈ st ++ av := fun hm => by rw [(takenN_iff st av a _).2 hm] at h; cases h
  rw [List.mem_append, not_or] at h2
  exact h2
theorem new_not (st : List ByteArray) : newS st ∉ st := by
  have h := (firstOf_spec (freeS st)).1.1
  intro hm
  have h2 : takenS st (firstOf (takenS st)) = true := (inSs_iff _ _).2 hm
  rw [h2] at h; cases h
/-- EVERY NAME BEHAVES AS ONE OF THE CANDIDATES. -/
theorem cand_for (l : List Cls) (y : Nm) : ∃ x ∈ candN (addL l ([], [])) [], ∀ c ∈ l, inC c x.1 x.2 = inC c y.1 y.2 := by
  obtain ⟨h1, h2⟩ := mem_addL l ([], [])
  obtain ⟨m, hm⟩ : ∃ m, addL l ([], []) = m := ⟨_, rfl⟩
  rw [hm] at h1 h2
  rw [hm]
  have same : ∀ x : Nm, (∀ n ∈ mnL l, (x = n ↔ y = n)) → (∀ s ∈ msL l, (x.1 = s ↔ y.1 = s)) → ∀ c ∈ l, inC c x.1 x.2 = inC c y.1 y.2 := fun x ha hb c hc =>
    inC_same c (fun n hn => ha n ((mnC_mem hc).1 n hn)) (fun s hs => hb s ((mnC_mem hc).2 s hs))
  by_cases hy : y ∈ m.1
  · exact ⟨y, by unfold candN; simp [hy], fun _ _ => rfl⟩
  · have hyn : ∀ n ∈ mnL l, y ≠ n := fun n hn e => hy (by rw [h1, e]; exact .inl hn)
    by_cases hs : y.1 ∈ m.2
    · refine ⟨freshN m.1 [] y.1, by unfold candN; simp; exact .inr (.inl ⟨_, hs, rfl⟩), same _ (fun n hn => ⟨fun e => ?_, fun e => absurd e (hyn n hn)⟩) (fun s _ => Iff.rfl)⟩
      exact absurd (by rw [e, h1]; exact .inl hn) (fresh_not m.1 [] y.1).1
    · refine ⟨freshN m.1 [] (newS m.2), by unfold candN; simp, same _ (fun n hn => ⟨fun e => ?_, fun e => absurd e (hyn n hn)⟩) (fun s hss => ⟨fun e => ?_, fun e => ?_⟩)⟩
      · exact absurd (by rw [e, h1]; exact .inl hn) (fresh_not m.1 [] (newS m.2)).1
      · exact absurd (by rw [show newS m.2 = s from e, h2]; exact .inl hss) (new_not m.2)
      · exact absurd (by rw [e, h2]; exact .inl hss) hs
/-- The answers of the cells are all different, and each answer is a cell's. -/
theorem cellsF_all (q : Nm → List Bool) : ∀ (l : List Nm) (out : List (Nm × List Bool)), (out.map (·.2)).Nodup → ((cellsF q l out).map (·.2)).Nodup ∧ (∀ o ∈ out, o ∈ cellsF q l out) ∧ (∀ x ∈ l, ∃ o ∈ cellsF q l out, o.2 = q x) ∧ (∀ o ∈ cellsF q l out, o ∈ out ∨ ∃ x ∈ l, o = (x, q x))
  | [], out, h => ⟨by rw [cellsF]; exact h, fun o ho => by rw [cellsF]; exact ho, fun x hx => by simp at hx, fun o ho => by rw [cellsF] at ho; exact .inl ho⟩
  | x :: l, out, h => by
    rw [cellsF]
    cases hc : out.any (fun o => o.2 == q x) with
    | true =>
      simp only [if_true]
      obtain ⟨h1, h2, h3, h4⟩ := cellsF_all q l out h
      refine ⟨h1, h2, fun y hy => ?_, fun o ho => ?_⟩
      · rcases List.mem_cons.1 hy with rfl | hy
        · obtain ⟨o, ho, he⟩ := List.any_eq_true.1 hc
          exact ⟨o, h2 o ho, by simpa using he⟩
        · exact h3 y hy
      · rcases h4 o ho with h | ⟨y, hy, e⟩
        · exact .inl h
        · exact .inr ⟨y, by simp [hy], e⟩
    | false =>
      simp only [Bool.false_eq_true, if_false]
      have hn : ((out ++ [(x, q x)]).map (·.2)).Nodup := by
        rw [List.map_append, List.nodup_append]
        refine ⟨h, by simp, fun a ha b hb e => ?_⟩
        obtain ⟨o, ho, rfl⟩ := List.mem_map.1 ha
        have hbb : b = q x := by simpa using hb
        have := List.any_eq_false.1 hc o ho
        rw [e, hbb] at this
        simp at this
      obtain ⟨h1, h2, h3, h4⟩ := cellsF_all q l _ hn
      refine ⟨h1, fun o ho => h2 o (by simp [ho]), fun y hy => ?_, fun o ho => ?_⟩
      · rcases List.mem_cons.1 hy with rfl | hy
        · exact ⟨_, h2 (y, q y) (by simp), rfl⟩
        · exact h3 y hy
      · rcases h4 o ho with h | ⟨y, hy, e⟩
        · rcases List.mem_append.1 h with h | h
          · exact .inl h
          · exact .inr ⟨x, by simp, by simpa using h⟩
        · exact .inr ⟨y, by simp [hy], e⟩
/-- JUST ONE CELL HAS A NAME's ANSWERS. -/
theorem cells_one (l : List Cls) (y : Nm) : (cellsF (qOf l) (candN (addL l ([], [])) []) []).countP (fun o => o.2 == qOf l y) = 1 := by
  obtain ⟨h1, -, h3, -⟩ := cellsF_all (qOf l) (candN (addL l ([], [])) []) [] (by simp)
  obtain ⟨x, hx, hc⟩ := cand_for l y
  have hq : qOf l x = qOf l y := by unfold qOf; exact List.map_congr_left fun c hcl => hc c hcl
  obtain ⟨o, ho, he⟩ := h3 x hx
  rw [hq] at he
  have e1 : ((cellsF (qOf l) (candN (addL l ([], [])) []) []).map (·.2)).count (qOf l y) = 1 :=
    Nat.le_antisymm (List.nodup_iff_count.1 h1 _) (List.count_pos_iff.2 (List.mem_map.2 ⟨o, ho, he⟩))
  rw [List.count_eq_countP, List.countP_map] at e1
  exact e1
end Go.Proofs.YtfildbkkmnfekaaGreatDoor
