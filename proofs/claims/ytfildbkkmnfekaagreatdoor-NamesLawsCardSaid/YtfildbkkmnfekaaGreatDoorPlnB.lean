/- Plain laws: what the program mentions, as maps, is what the reference mentions, as ascending lists. -/
import Derived.Test.YtfildbkkmnfekaaGreatDoorG20
import Derived.Test.YtfildbkkmnfekaaGreatDoorG33
import Derived.Test.YtfildbkkmnfekaaGreatDoorMentQ
namespace Go.Proofs.YtfildbkkmnfekaaGreatDoor
open Go.RowKit

theorem putA_nil {α : Type} (lt eq : α → α → Bool) (x : α) : putA lt eq x [] = [x] := by simp [putA, kOf]
theorem putA_cons {α : Type} (lt eq : α → α → Bool) (x y : α) (l : List α) : putA lt eq x (y :: l) = if lt y x then y :: putA lt eq x l else if eq y x then y :: l else x :: y :: l := by
  unfold putA
  rw [kOf]
  cases h : lt y x with
  | true =>
    simp only [if_true, List.getElem?_cons_succ, List.take_succ_cons, List.drop_succ_cons]
    cases l[kOf lt x l]? with
    | none => simp
    | some z => cases hz : eq z x <;> simp [hz]
  | false => simp
theorem putA_mem {α : Type} {lt eq : α → α → Bool} (he : ∀ a b, eq a b = true ↔ a = b) {x y : α} : ∀ {l : List α}, y ∈ putA lt eq x l ↔ y = x ∨ y ∈ l
  | [] => by rw [putA_nil]; simp
  | z :: l => by
    rw [putA_cons]
    cases h : lt z x with
    | true => simp only [if_true, List.mem_cons, putA_mem he]; exact ⟨fun h => by rcases h with h | h | h <;> simp [h], fun h => by rcases h with h | h | h <;> simp [h]⟩
    | false =>
      cases h2 : eq z x with
      | true => have := (he _ _).1 h2; subst this; simp
      | false => simp
theorem putA_asc {α : Type} {lt eq : α → α → Bool} (he : ∀ a b, eq a b = true ↔ a = b) (ht : ∀ a b c, lt a b = true → lt b c = true → lt a c = true) (hto : ∀ a b, lt a b = false → lt b a = false → a = b) {x : α} :
    ∀ {l : List α}, l.Pairwise (fun a b => lt a b = true) → (putA lt eq x l).Pairwise (fun a b => lt a b = true)
  | [], _ => by rw [putA_nil]; simp
  | z :: l, h => by
    rw [putA_cons]
    obtain ⟨h1, h2⟩ := List.pairwise_cons.1 h
    cases h3 : lt z x with
    | true =>
      simp only [if_true]
      refine List.pairwise_cons.2 ⟨fun y hy => ?_, putA_asc he ht hto h2⟩
      rcases (putA_mem he).1 hy with rfl | hy
      · exact h3
      · exact h1 y hy
    | false =>
      cases h4 : eq z x with
      | true => simpa using h
      | false =>
        simp only [Bool.false_eq_true, if_false]
        have hxz : lt x z = true := by
          cases h5 : lt x z with
          | true => rfl
          | false => have := hto _ _ h3 h5; subst this; rw [(he _ _).2 rfl] at h4; cases h4
        refine List.pairwise_cons.2 ⟨fun y hy => ?_, h⟩
        rcases List.mem_cons.1 hy with rfl | hy
        · exact hxz
        · exact ht _ _ _ hxz (h1 y hy)
theorem eqN_iff (a b : Nm) : eqN a b = true ↔ a = b := by
  unfold eqN; rw [Bool.and_eq_true, eqS_iff, eqS_iff]
  exact ⟨fun h => Prod.ext h.1 h.2, fun h => by subst h; exact ⟨rfl, rfl⟩⟩
theorem eqS_iff' (a b : ByteArray) : eqS a b = true ↔ a = b := eqS_iff
section Maps
variable {κ : Type} {eq : κ → κ → Bool}
theorem look_put (he : ∀ a b, eq a b = true ↔ a = b) (k k' : κ) (v : Bool) : ∀ l : List (κ × Bool), look eq k' (putM eq k v l) = if eq k' k then some v else look eq k' l
  | [] => by simp [putM, look]
  | (a, u) :: l => by
    rw [putM]
    cases h : eq k a with
    | true =>
      have := (he _ _).1 h; subst this
      simp only [if_true, look]
      cases eq k' k <;> simp
    | false =>
      simp only [Bool.false_eq_true, if_false, look, look_put he k k' v l]
      cases h2 : eq k' a with
      | false => simp
      | true =>
        have := (he _ _).1 h2; subst this
        have h3 : eq k' k = false := by
          cases h4 : eq k' k with
          | false => rfl
          | true => have := (he _ _).1 h4; subst this; rw [(he _ _).2 rfl] at h; cases h
        simp [h3]
theorem keys_put (he : ∀ a b, eq a b = true ↔ a = b) (k y : κ) (v : Bool) : ∀ l : List (κ × Bool), y ∈ (putM eq k v l).map (·.1) ↔ y = k ∨ y ∈ l.map (·.1)
  | [] => by simp [putM]
  | (a, u) :: l => by
    rw [putM]
    cases h : eq k a with
    | true => have := (he _ _).1 h; subst this; simp
    | false =>
      simp only [Bool.false_eq_true, if_false, List.map_cons, List.mem_cons, keys_put he k y v l]
      exact ⟨fun h => by rcases h with h | h | h <;> simp [h], fun h => by rcases h with h | h | h <;> simp [h]⟩
theorem nodup_put (he : ∀ a b, eq a b = true ↔ a = b) (k : κ) (v : Bool) : ∀ {l : List (κ × Bool)}, NodupK l → NodupK (putM eq k v l)
  | [], _ => by simp [putM, NodupK]
  | (a, u) :: l, h => by
    unfold NodupK at h ⊢
    rw [List.map_cons, List.nodup_cons] at h
    rw [putM]
    cases h3 : eq k a with
    | true => have := (he _ _).1 h3; subst this; simp only [if_true, List.map_cons, List.nodup_cons]; exact h
    | false =>
      simp only [Bool.false_eq_true, if_false, List.map_cons, List.nodup_cons]
      refine ⟨fun hm => ?_, nodup_put he k v h.2⟩
      rcases (keys_put he k a v l).1 hm with e | hm
      · subst e; rw [(he _ _).2 rfl] at h3; cases h3
      · exact h.1 hm
theorem look_keys (he : ∀ a b, eq a b = true ↔ a = b) (k : κ) : ∀ l : List (κ × Bool), (look eq k l).isSome = true ↔ k ∈ l.map (·.1)
  | [] => by simp [look]
  | (a, u) :: l => by
    rw [look, List.map_cons, List.mem_cons]
    cases h : eq k a with
    | true => simp [(he _ _).1 h]
    | false =>
      simp only [Bool.false_eq_true, if_false, look_keys he k l]
      exact ⟨.inr, fun hh => hh.resolve_left (fun e => by rw [(he _ _).2 e] at h; cases h)⟩
theorem look_mem (he : ∀ a b, eq a b = true ↔ a = b) (k : κ) (v : Bool) : ∀ {l : List (κ × Bool)}, NodupK l → (look eq k l = some v ↔ (k, v) ∈ l)
  | [], _ => by simp [look]
  | (a, u) :: l, h => by
    unfold NodupK at h
    rw [List.map_cons, List.nodup_cons] at h
    rw [look, List.mem_cons]
    cases h3 : eq k a with
    | true =>
      have := (he _ _).1 h3; subst this
      simp only [if_true, Option.some.injEq, Prod.mk.injEq, true_and]
      refine ⟨fun e => .inl e.symm, fun hh => ?_⟩
      rcases hh with e | hm
      · exact e.symm
      · exact absurd (List.mem_map.2 ⟨_, hm, rfl⟩) h.1
    | false =>
      simp only [Bool.false_eq_true, if_false, look_mem he k v (l := l) h.2, Prod.mk.injEq]
      exact ⟨.inr, fun hh => hh.resolve_left (fun e => by rw [(he _ _).2 e.1] at h3; cases h3)⟩
end Maps
/-- The maps say what the lists say. -/
structure MRel (av : List Nm) (p : Ment) (m : Men) : Prop where
  nd1 : NodupK p.1
  nd2 : NodupK p.2
  asc1 : m.1.Pairwise (fun x y => ltN x y = true)
  asc2 : m.2.Pairwise (fun x y => ltS x y = true)
  t1 : ∀ x, look eqN x p.1 = some true ↔ x ∈ m.1
  f1 : ∀ x, (look eqN x p.1).isSome = true ↔ x ∈ m.1 ∨ x ∈ av
  t2 : ∀ s, look eqS s p.2 = some true ↔ s ∈ m.2
  f2 : ∀ s, (look eqS s p.2).isSome = true ↔ s ∈ m.2
theorem MRel.putS {av : List Nm} {p : Ment} {m : Men} (h : MRel av p m) (s : ByteArray) : MRel av (p.1, putM eqS s true p.2) (m.1, putS m.2 s) where
  nd1 := h.nd1
  nd2 := nodup_put eqS_iff' s true h.nd2
  asc1 := h.asc1
  asc2 := putA_asc (lt := ltS) eqS_iff' (fun _ _ _ => ltS_trans) (fun _ _ => ltS_total) h.asc2
  t1 := h.t1
  f1 := h.f1
  t2 x := by
    rw [look_put eqS_iff']
    show _ ↔ x ∈ putA ltS eqS s m.2
    rw [putA_mem eqS_iff']
    cases e : eqS x s with
    | true => simp [(eqS_iff' _ _).1 e]
    | false => simp only [Bool.false_eq_true, if_false, h.t2]; exact ⟨.inr, fun hh => hh.resolve_left fun e2 => by rw [(eqS_iff' _ _).2 e2] at e; cases e⟩
  f2 x := by
    rw [look_put eqS_iff']
    show _ ↔ x ∈ putA ltS eqS s m.2
    rw [putA_mem eqS_iff']
    cases e : eqS x s with
    | true => simp [(eqS_iff' _ _).1 e]
    | false => simp only [Bool.false_eq_true, if_false, h.f2]; exact ⟨.inr, fun hh => hh.resolve_left fun e2 => by rw [(eqS_iff' _ _).2 e2] at e; cases e⟩
theorem MRel.putN {av : List Nm} {p : Ment} {m : Men} (h : MRel av p m) (n : Nm) : MRel av (putM eqN n true p.1, p.2) (putN m.1 n, m.2) where
  nd1 := nodup_put eqN_iff n true h.nd1
  nd2 := h.nd2
  asc1 := putA_asc (lt := ltN) eqN_iff (fun _ _ _ => ltN_trans) (fun _ _ => ltN_total) h.asc1
  asc2 := h.asc2
  t2 := h.t2
  f2 := h.f2
  t1 x := by
    rw [look_put eqN_iff]
    show _ ↔ x ∈ putA ltN eqN n m.1
    rw [putA_mem eqN_iff]
    cases e : eqN x n with
    | true => simp [(eqN_iff _ _).1 e]
    | false => simp only [Bool.false_eq_true, if_false, h.t1]; exact ⟨.inr, fun hh => hh.resolve_left fun e2 => by rw [(eqN_iff _ _).2 e2] at e; cases e⟩
  f1 x := by
    rw [look_put eqN_iff]
    show _ ↔ x ∈ putA ltN eqN n m.1 ∨ _
    rw [putA_mem eqN_iff]
    cases e : eqN x n with
    | true => simp [(eqN_iff _ _).1 e]
    | false => simp only [Bool.false_eq_true, if_false, h.f1, or_assoc]; exact ⟨.inr, fun hh => hh.resolve_left fun e2 => by rw [(eqN_iff _ _).2 e2] at e; cases e⟩
mutual
theorem MRel.addC {av : List Nm} : ∀ (c : Cls) {p : Ment} {m : Men}, MRel av p m → MRel av (addPC c p) (addC c m)
  | .mk k ns nl s ex ar, p, m, h => by
    rw [addPC, YtfildbkkmnfekaaGreatDoor.addC]
    refine MRel.addL ar (MRel.addL ex ?_)
    by_cases h1 : k = 1
    · rw [if_pos h1, if_pos h1]; exact (h.putN (ns, nl)).putS ns
    · rw [if_neg h1, if_neg h1]
      by_cases h2 : k = 2
      · rw [if_pos h2, if_pos h2]; exact h.putS s
      · rw [if_neg h2, if_neg h2]; exact h
theorem MRel.addL {av : List Nm} : ∀ (l : List Cls) {p : Ment} {m : Men}, MRel av p m → MRel av (addPL l p) (addL l m)
  | [], _, _, h => by rw [addPL, YtfildbkkmnfekaaGreatDoor.addL]; exact h
  | c :: l, _, _, h => by rw [addPL, YtfildbkkmnfekaaGreatDoor.addL]; exact MRel.addL l (MRel.addC c h)
end
theorem avM_facts : ∀ (av : List Nm) (L : List (Nm × Bool)), NodupK L → (∀ x, look eqN x L ≠ some true) →
    NodupK (av.foldl (fun m x => putM eqN x false m) L) ∧ (∀ x, look eqN x (av.foldl (fun m x => putM eqN x false m) L) ≠ some true) ∧ (∀ x, (look eqN x (av.foldl (fun m x => putM eqN x false m) L)).isSome = true ↔ (look eqN x L).isSome = true ∨ x ∈ av)
  | [], L, h1, h2 => ⟨h1, h2, fun x => by simp⟩
  | a :: av, L, h1, h2 => by
    obtain ⟨g1, g2, g3⟩ := avM_facts av (putM eqN a false L) (nodup_put eqN_iff a false h1) (fun x => by
      rw [look_put eqN_iff]; cases eqN x a <;> simp [h2 x])
    refine ⟨g1, g2, fun x => ?_⟩
    rw [List.foldl_cons, g3, look_put eqN_iff, List.mem_cons]
    cases e : eqN x a with
    | true => simp [(eqN_iff _ _).1 e]
    | false =>
      have : x ≠ a := fun e2 => by rw [(eqN_iff _ _).2 e2] at e; cases e
      simp [this]
theorem MRel.start (av : List Nm) : MRel av (avM av, []) ([], []) where
  nd1 := (avM_facts av [] (by simp [NodupK]) (fun x => by simp [look])).1
  nd2 := by simp [NodupK]
  asc1 := List.Pairwise.nil
  asc2 := List.Pairwise.nil
  t1 x := by have := (avM_facts av [] (by simp [NodupK]) (fun x => by simp [look])).2.1 x; unfold avM; simp [this]
  f1 x := by have := (avM_facts av [] (by simp [NodupK]) (fun x => by simp [look])).2.2 x; unfold avM; rw [this]; simp [look]
  t2 s := by simp [look]
  f2 s := by simp [look]
theorem MRel.all (av : List Nm) (l : List Cls) : MRel av (addPL l (avM av, [])) (YtfildbkkmnfekaaGreatDoor.addL l ([], [])) := MRel.addL l (MRel.start av)
theorem MRel.names {av : List Nm} {p : Ment} {m : Men} (h : MRel av p m) : srtN (namesOf p.1) = m.1 := by
  have hnd : m.1.Nodup := h.asc1.imp fun {a b} hab e => by subst e; rw [ltN_irrefl] at hab; cases hab
  refine (srtN_eq ((List.perm_ext_iff_of_nodup hnd ?_).2 fun x => ?_) (h.asc1.imp fun hab => ltN_asym hab)).symm
  · exact List.Nodup.sublist (List.Sublist.map _ List.filter_sublist) h.nd1
  · rw [← h.t1 x, look_mem eqN_iff x true h.nd1]
    unfold namesOf
    simp
theorem MRel.spaces {av : List Nm} {p : Ment} {m : Men} (h : MRel av p m) : srtS (p.2.map (·.1)) = m.2 := by
  have hnd : m.2.Nodup := h.asc2.imp fun {a b} hab e => by subst e; rw [ltS_irrefl] at hab; cases hab
  refine (srtS_eq ((List.perm_ext_iff_of_nodup hnd (show (p.2.map (·.1)).Nodup from h.nd2)).2 fun x => ?_) (h.asc2.imp fun hab => ltS_asym hab)).symm
  rw [← h.f2 x, look_keys eqS_iff']
theorem MRel.taken {av : List Nm} {p : Ment} {m : Men} (h : MRel av p m) (a : ByteArray) (i : Nat) : (look eqN (a, numB xB i) p.1).isSome = takenN m.1 av a i := by
  rw [Bool.eq_iff_iff, h.f1, takenN_iff, List.mem_append]
theorem MRel.takenS {av : List Nm} {p : Ment} {m : Men} (h : MRel av p m) (i : Nat) : (look eqS (numB uB i) p.2).getD false = YtfildbkkmnfekaaGreatDoor.takenS m.2 i := by
  have h1 := h.t2 (numB uB i)
  have h2 := h.f2 (numB uB i)
  unfold YtfildbkkmnfekaaGreatDoor.takenS
  rw [Bool.eq_iff_iff, inSs_iff, ← h1]
  cases look eqS (numB uB i) p.2 with
  | none => simp
  | some b => cases b <;> simp
theorem MRel.len1 {av : List Nm} {p : Ment} {m : Men} (h : MRel av p m) : p.1.length ≤ m.1.length + av.length := by
  have := len_of_subset (p.1.map (·.1)) (m.1 ++ av) h.nd1 (fun x hx => by
    rw [List.mem_append, ← h.f1]; exact (look_keys eqN_iff x p.1).2 hx)
  simpa using this
theorem MRel.len2 {av : List Nm} {p : Ment} {m : Men} (h : MRel av p m) : p.2.length ≤ m.2.length := by
  have := len_of_subset (p.2.map (fun q => q.1)) m.2 (show (p.2.map (fun q => q.1)).Nodup from h.nd2) (fun x hx => by
    rw [← h.f2]; exact (look_keys eqS_iff' x p.2).2 hx)
  simpa using this
theorem MRel.mem2 {av : List Nm} {p : Ment} {m : Men} (h : MRel av p m) {q : ByteArray × Bool} (hq : q ∈ p.2) : q.1 ∈ m.2 := by
  rw [← h.f2]; exact (look_keys eqS_iff' q.1 p.2).2 (List.mem_map.2 ⟨q, hq, rfl⟩)
mutual
theorem addC_size : ∀ (c : Cls) {m : Men}, formC c = true → (∀ s ∈ m.2, s.size ≤ 200) → ∀ s ∈ (addC c m).2, s.size ≤ 200
  | .mk k ns nl s ex ar, m, h, hm => by
    rw [formC, Bool.and_eq_true, Bool.and_eq_true] at h
    obtain ⟨⟨h1, h2⟩, h3⟩ := h
    obtain ⟨_, _, _, g1, g2⟩ := nodeB_facts h3
    rw [addC]
    refine addL_size ar h2 (addL_size ex h1 ?_)
    by_cases e1 : k = 1
    · rw [if_pos e1]
      have hv := g1 e1
      unfold validB at hv
      simp only [Bool.and_eq_true, decide_eq_true_eq] at hv
      intro x hx
      rcases (putA_mem eqS_iff').1 hx with rfl | hx
      · exact hv.2
      · exact hm x hx
    · rw [if_neg e1]
      by_cases e2 : k = 2
      · rw [if_pos e2]
        intro x hx
        rcases (putA_mem eqS_iff').1 hx with rfl | hx
        · exact g2 e2
        · exact hm x hx
      · rw [if_neg e2]; exact hm
theorem addL_size : ∀ (l : List Cls) {m : Men}, formL l = true → (∀ s ∈ m.2, s.size ≤ 200) → ∀ s ∈ (addL l m).2, s.size ≤ 200
  | [], m, _, hm => by rw [addL]; exact hm
  | c :: l, m, h, hm => by
    rw [formL, Bool.and_eq_true] at h
    rw [addL]; exact addL_size l h.2 (addC_size c h.1 hm)
end
theorem cands_eq (m : Men) (av : List Nm) : candsOf m.1 m.2 (newS m.2) (fun a => (freshN m.1 av a).2) = candN m av := by
  unfold candsOf candN
  rw [List.map_append, List.append_assoc]
  rfl
/-- The program's functions over what is mentioned, in the reference's words. -/
theorem candFns_men (g1 g2 : Nat) (l : List Cls) (av : List Nm) (hl : formL l = true) (_hn : numL l < 1000000) (ha : av.length < 100000) (h1 : numL l + av.length < 1000000) :
    CandFns g1 g2 (addPL l (avM av, [])) (addL l ([], [])).1 (addL l ([], [])).2 (newS (addL l ([], [])).2) (fun a => (freshN (addL l ([], [])).1 av a).2) := by
  have hR := MRel.all av l
  have hlen := addL_len l ([], [])
  obtain ⟨p, hp⟩ : ∃ p, addPL l (avM av, []) = p := ⟨_, rfl⟩
  have hsz := addL_size l (m := ([], [])) hl (by simp)
  obtain ⟨m, hm⟩ : ∃ m, addL l ([], []) = m := ⟨_, rfl⟩
  rw [hp, hm] at hR
  rw [hm] at hlen hsz
  rw [hp, hm]
  simp only [List.length_nil, Nat.zero_add] at hlen
  have e1 := hR.len1
  have e2 := hR.len2
  have hS := firstOf_spec (freeS m.2)
  have hN := fun a => firstOf_spec (freeN m.1 av a)
  have key := candFns_of g1 g2 p (by omega) (by omega) (fun q hq => by have := hsz _ (hR.mem2 hq); omega) hR.nd2 (firstOf (takenS m.2)) (by simpa only [hR.takenS] using hS.1) (by omega)
    (fun a => firstOf (takenN m.1 av a)) (fun a => by simpa only [hR.taken] using (hN a).1) (fun a => by have := (hN a).2; rw [List.length_append] at this; omega)
  rw [hR.names, hR.spaces] at key
  exact key
end Go.Proofs.YtfildbkkmnfekaaGreatDoor
