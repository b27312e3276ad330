/- The spaces that are mentioned, as the library's contracts read the map; the sort of names. The order of names; names are sorted. -/
import Derived.Test.YtfildbkkmnfekaaGreatDoorIterB
import Derived.Test.YtfildbkkmnfekaaGreatDoorG22
import Derived.Test.YtfildbkkmnfekaaGreatDoorOrdA
import Derived.Test.YtfildbkkmnfekaaGreatDoorAppA
import Derived.Shelf.SlSortCmp.NoneTotal
import Derived.WalkKit
import Derived.WalkSpells
import Derived.WalkLawsBesides
import Derived.Lib.Hide
import Derived.BigGuardPart
namespace Go.Proofs.YtfildbkkmnfekaaGreatDoor
open Go.RowKit Go.Maps Go.Sort Go.Shelf Go.ChangeMaps Go.MapKept

def rdNil : Value → Option (DataW Unit × List MemPlace) := fun _ => some (.nil, [])
noncomputable def keysD (L : List (ByteArray × Bool)) : DataW Unit := .map (((mE stE L 0).map (Go.WideElems.rg Tryz.prog 9 rdNil)).foldr DataW.insert [])
theorem mE_keys (L : List (ByteArray × Bool)) (hs : ∀ p ∈ L, p.1.size ≤ maxLen) : ∀ i, (mE stE L i).map (Go.WideElems.rg Tryz.prog 9 rdNil) = L.map fun p => (Lit.string p.1.data.toList, (DataW.nil : DataW Unit)) := by
  induction L with
  | nil => intro i; rfl
  | cons p L ih =>
    intro i
    obtain ⟨k, v⟩ := p
    have hk : keyOf Tryz.prog 9 (.string k) = some (.string k.data.toList) := Go.WideMaps.keyOf_string_mk Tryz.underlying9 (hs (k, v) (.head _))
    have hr : Go.WideElems.rg Tryz.prog 9 rdNil ⟨stE k, .bool v, i⟩ = (Lit.string k.data.toList, DataW.nil) := by
      show ((((keyOf Tryz.prog 9 (.string k)).bind fun key => (rdNil (.bool v)).map fun y => (key, y.1)).getD (.bool false, .nil)) : Lit × DataW Unit) = _
      rw [hk]; rfl
    rw [mE, List.map_cons, List.map_cons, hr, ih (fun q hq => hs q (.tail _ hq))]
theorem keys_perm (L : List (ByteArray × Bool)) (hs : ∀ p ∈ L, p.1.size ≤ maxLen) : (strKeys (keysD L)).Perm (L.map fun p => p.1.data.toList) := by
  unfold keysD strKeys
  rw [mE_keys L hs 0]
  refine ((Go.WideShapes.sorted_perm _).map _).trans ?_
  rw [List.map_map]
  exact List.Perm.refl _
/-- Each key of the map stands once. -/
def NodupK {κ : Type} (L : List (κ × Bool)) : Prop := (L.map (·.1)).Nodup
theorem mE_map_key {κ : Type} (enc : κ → Value) : ∀ (L : List (κ × Bool)) (i : Nat), (mE enc L i).map (·.key) = L.map fun p => enc p.1
  | [], _ => rfl
  | (k, v) :: L, i => by rw [mE, List.map_cons, List.map_cons, mE_map_key enc L (i + 1)]
theorem mE_map_born {κ : Type} (enc : κ → Value) : ∀ (L : List (κ × Bool)) (i : Nat), (mE enc L i).map (·.born) = List.range' i L.length
  | [], _ => rfl
  | (k, v) :: L, i => by rw [mE, List.map_cons, List.length_cons, List.range'_succ, mE_map_born enc L (i + 1)]
theorem nodup_map_inj {α β : Type} {f : α → β} (hf : ∀ a b, f a = f b → a = b) : ∀ {l : List α}, l.Nodup → (l.map f).Nodup
  | [], _ => by simp
  | a :: l, h => by
    rw [List.map_cons, List.nodup_cons]
    rw [List.nodup_cons] at h
    refine ⟨fun hm => ?_, nodup_map_inj hf h.2⟩
    obtain ⟨b, hb, e⟩ := List.mem_map.1 hm
    exact h.1 (hf _ _ e ▸ hb)
theorem ownsMap_of {w : World} {g : Nat} {L : List (ByteArray × Bool)} (h : MapIs w g stE L) (hn : NodupK L) (hs : ∀ p ∈ L, p.1.size ≤ maxLen) (hl : L.length ≤ maxLen) : w.ownsMap Tryz.prog 9 rdNil g L.length (keysD L) := by
  refine ⟨(mE stE L 0).toArray, L.length, h, ⟨?_, ⟨?_, ?_, ?_⟩, ?_⟩, ?_, rfl⟩
  · simpa [mE_len] using hl
  · intro x hx
    obtain ⟨j, hj, rfl⟩ := List.mem_iff_getElem.1 (show x ∈ mE stE L 0 from hx)
    have h1 := mE_get stE L 0 j
    rw [List.getElem?_eq_getElem hj] at h1
    rw [mE_len] at hj
    rw [List.getElem?_eq_getElem hj] at h1
    simp only [Option.map_some, Option.some.injEq, Nat.zero_add] at h1
    rw [h1]; exact hj
  · show ((mE stE L 0).map (·.born)).Nodup
    rw [mE_map_born]; exact List.nodup_range'
  · show ((mE stE L 0).map (·.key)).Nodup
    rw [mE_map_key]
    have := nodup_map_inj (f := stE) (fun a b e => by unfold stE at e; injection e) hn
    rw [List.map_map] at this
    exact this
  · intro x hx
    obtain ⟨j, hj, rfl⟩ := List.mem_iff_getElem.1 (show x ∈ mE stE L 0 from hx)
    have h1 := mE_get stE L 0 j
    rw [List.getElem?_eq_getElem hj] at h1
    rw [mE_len] at hj
    rw [List.getElem?_eq_getElem hj] at h1
    simp only [Option.map_some, Option.some.injEq, Nat.zero_add] at h1
    rw [h1]
    have hk : keyOf Tryz.prog 9 (.string L[j].1) = some (.string L[j].1.data.toList) := Go.WideMaps.keyOf_string_mk Tryz.underlying9 (hs _ (List.getElem_mem hj))
    refine ⟨(.string L[j].1.data.toList, .nil), ?_⟩
    show (((keyOf Tryz.prog 9 (.string L[j].1)).bind fun key => (rdNil (.bool L[j].2)).map fun y => (key, y.1)) : Option (Lit × DataW Unit)) = _
    rw [hk]; rfl
  · simp [mE_len]
theorem keysD_size (L : List (ByteArray × Bool)) : Maps.size (keysD L) = L.length := by
  show (((mE stE L 0).map (Go.WideElems.rg Tryz.prog 9 rdNil)).foldr DataW.insert []).length = _
  rw [length_sorted, List.length_map, mE_len]
end Go.Proofs.YtfildbkkmnfekaaGreatDoor
namespace Go.Proofs.YtfildbkkmnfekaaGreatDoor
open Go.RowKit Go.Sort Go.Shelf

theorem ltS_irrefl (x : ByteArray) : ltS x x = false := by unfold ltS; simp
theorem ltS_trans {x y z : ByteArray} (h : ltS x y = true) (k : ltS y z = true) : ltS x z = true := by
  unfold ltS at *
  exact decide_eq_true (List.lt_trans (of_decide_eq_true h) (of_decide_eq_true k))
theorem ltS_total {x y : ByteArray} (h : ltS x y = false) (k : ltS y x = false) : x = y := by
  unfold ltS at *
  have h1 := of_decide_eq_false h
  have h2 := of_decide_eq_false k
  have := List.le_antisymm (List.not_lt.1 h2) (List.not_lt.1 h1)
  exact toList_eq (by rw [Lib.toList_data, Lib.toList_data, this])
theorem eqS_false_of_lt {x y : ByteArray} (h : ltS x y = true) : eqS x y = false := by
  cases he : eqS x y
  · rfl
  · rw [eqS_iff.1 he, ltS_irrefl] at h; cases h
theorem ltN_irrefl (x : Nm) : ltN x x = false := by unfold ltN; rw [ltS_irrefl, ltS_irrefl]; simp
theorem ltN_iff (x y : Nm) : ltN x y = true ↔ ltS x.1 y.1 = true ∨ (x.1 = y.1 ∧ ltS x.2 y.2 = true) := by
  unfold ltN; rw [Bool.or_eq_true, Bool.and_eq_true, eqS_iff]
theorem ltN_trans {x y z : Nm} (h : ltN x y = true) (k : ltN y z = true) : ltN x z = true := by
  rw [ltN_iff] at *
  rcases h with h | ⟨h, h2⟩ <;> rcases k with k | ⟨k, k2⟩
  · exact .inl (ltS_trans h k)
  · exact .inl (k ▸ h)
  · exact .inl (h ▸ k)
  · exact .inr ⟨h.trans k, ltS_trans h2 k2⟩
theorem ltN_total {x y : Nm} (h : ltN x y = false) (k : ltN y x = false) : x = y := by
  have h' : ¬ ltN x y = true := by rw [h]; simp
  have k' : ¬ ltN y x = true := by rw [k]; simp
  rw [ltN_iff] at h' k'
  have e1 : x.1 = y.1 := ltS_total (by cases hh : ltS x.1 y.1 with | false => rfl | true => exact absurd (.inl hh) h') (by cases hh : ltS y.1 x.1 with | false => rfl | true => exact absurd (.inl hh) k')
  have e2 : x.2 = y.2 := ltS_total (by cases hh : ltS x.2 y.2 with | false => rfl | true => exact absurd (.inr ⟨e1, hh⟩) h') (by cases hh : ltS y.2 x.2 with | false => rfl | true => exact absurd (.inr ⟨e1.symm, hh⟩) k')
  exact Prod.ext e1 e2
theorem ltN_ntrans {x y z : Nm} (h : ltN x y = false) (k : ltN y z = false) : ltN x z = false := by
  cases hh : ltN x z with
  | false => rfl
  | true =>
    cases h2 : ltN y x with
    | true => rw [ltN_trans h2 hh] at k; cases k
    | false =>
      have := ltN_total h h2
      subst this
      rw [hh] at k; cases k
theorem ltOf_cmpN (x y : Nm) : ltOf cmpN x y = ltN x y := cmpN_lt x y
theorem swoN : SWO (ltOf cmpN) := ⟨fun x => by rw [ltOf_cmpN]; exact ltN_irrefl x, fun x y z h k => by rw [ltOf_cmpN] at *; exact ltN_trans h k, fun x y z h k => by rw [ltOf_cmpN] at *; exact ltN_ntrans h k⟩
set_option maxHeartbeats 1000000 in
theorem compare_grow (a b c d : ByteArray) (w : World) :
    Calls Tryz.prog 55 #[.agg #[.string a, .string b], .agg #[.string c, .string d]] w fun e w' => e = .returned (.int .i64 (cmpN (a, b) (c, d))) ∧ ∃ q os', w' = grow (w.drewN q) os' := by
  have HG : Hid (∃ os, (w.alloc (.cells #[.string a, .string b] 24)).alloc (.cells #[.string c, .string d] 24) = grow w os) := Lib.hid ⟨_, by rw [alloc_eq_grow, alloc_eq_grow, grow_grow]⟩
  obtain ⟨w1, hw1, hb1, hb2, hsz, hbw⟩ := alloc2_facts w (.cells #[.string a, .string b] 24) (.cells #[.string c, .string d] 24)
  have HG2 : Hid (∃ q os', w1 = grow (w.drewN q) os') := Lib.hid (by obtain ⟨os, h⟩ := HG.out; exact ⟨0, os, by rw [← hw1, h]; rfl⟩)
  obtain ⟨q0, q1⟩ := blk2 hb1
  obtain ⟨r0, r1⟩ := blk2 hb2
  have hbd := cmpS_bd a c
  obtain ⟨x, hx⟩ : ∃ x, cmpS a c = x := ⟨_, rfl⟩
  have HS : ∀ u v W, Hid (Calls Tryz.prog 84 #[.string u, .string v] W fun e w' => e = .returned (.int .i64 (cmpS u v)) ∧ w' = W) := fun u v W => Tryz.strings_Compare u v W
  have HR : Hid (cmpN (a, b) (c, d) = if x ≠ 0 then x else cmpS b d) := by unfold cmpN; rw [hx]; exact rfl
  clear hb1 hb2
  go_enter Tryz.func55, Tryz.ntmps55
  go_wp2_with fail
  refine (HS a c _).out.mono ?_
  rintro e w' ⟨rfl, rfl⟩
  rw [hx] at hbd ⊢
  clear hx
  by_cases h0 : x = 0
  · subst h0
    go_wp2_with fail
    refine (HS b d _).out.mono ?_
    rintro e w' ⟨rfl, rfl⟩
    go_wp2_with fail
    go_ret
    exact ⟨ret_int (by rw [HR.out]; rfl), HG2.out⟩
  · go_wp2_with fail
    go_ret
    exact ⟨ret_int (by rw [HR.out, if_pos h0]), HG2.out⟩
theorem cmpLaysN (blk off size : Nat) (w : World) : CmpLays Tryz.prog 55 #[] nmV 2 cmpN blk off size w := fun _ _ _ _ x y => compare_grow x.1 x.2 y.1 y.2 _
theorem cells_of_holdsK {w : World} {g off : Nat} {l : List Nm} (h : HoldsK nmV 2 w g off l.toArray) : ∀ i x, l[i]? = some x → CellsAt w g (off + i * 2) (nmV x) := by
  intro i x hx j v hv
  have hi : i < l.length := (List.getElem?_eq_some_iff.1 hx).1
  have hj : j < 2 := (List.getElem?_eq_some_iff.1 hv).1
  have h1 := (h (i * 2 + j) (by simp; omega)).1
  rw [get_flatK _ _ _ _ (by simp; omega)] at h1
  rw [Nat.add_assoc, h1]
  have e1 : (i * 2 + j) / 2 = i := by omega
  have e2 : (i * 2 + j) % 2 = j := by omega
  rw [e1, e2]
  have e3 : l.toArray[i]! = x := by
    rw [getElem!_pos l.toArray i (by simpa using hi)]
    obtain ⟨_, rfl⟩ := List.getElem?_eq_some_iff.1 hx
    simp
  rw [e3]
  have : (nmV x)[j]! = v := by
    rw [getElem!_pos (nmV x) j hj]
    obtain ⟨_, rfl⟩ := List.getElem?_eq_some_iff.1 hv
    rfl
  rw [this]; rfl
theorem holdsK_of_cells {w : World} {g : Nat} {l : List Nm} {cur : Array Value} (hg : w.heap[g]? = some (.cells cur 24 (0, 0))) (hc : cur.toList.take (l.length * 2) = l.flatMap nmV) : HoldsK nmV 2 w g 0 l.toArray := by
  intro t ht
  have ht' : t < l.length * 2 := by simpa using ht
  refine ⟨?_, frozen_of_row w g _ _ _ hg⟩
  rw [Nat.zero_add, cell_of_row w g _ _ _ _ hg]
  have hq : t / 2 < l.length := by omega
  have hx : l[t / 2]? = some l[t / 2] := List.getElem?_eq_getElem hq
  have hf := flat_get nm_len l (t / 2) (t % 2) _ hx (Nat.mod_lt _ (by decide))
  rw [show t / 2 * 2 + t % 2 = t by omega, ← hc, List.getElem?_take_of_lt ht'] at hf
  have e : cur[t]? = (nmV l[t / 2])[t % 2]? := by simpa using hf
  rw [e, get_flatK _ _ _ _ (by simpa using ht')]
  have e3 : l.toArray[t / 2]! = l[t / 2] := by rw [getElem!_pos l.toArray (t / 2) (by simpa using hq)]; simp
  have hl2 : t % 2 < (nmV l[t / 2]).length := Nat.mod_lt _ (by decide)
  rw [e3, List.getElem?_eq_getElem hl2, getElem!_pos (nmV l[t / 2]) (t % 2) hl2]
  rfl
theorem grownBy_sortK {w : World} {g n : Nat} {os : Array Obj} (d : Array Nm) : w.grownBy (sortWorldK nmV 2 w g 0 n d os) (some g) := by
  refine ⟨rfl, rfl, rfl, ?_, fun k hk hne => ?_⟩
  · show w.heap.size ≤ ((putRowK nmV 2 (Sort.ahead w n) g 0 d).heap ++ os).size
    rw [Array.size_append]
    have : (putRowK nmV 2 (Sort.ahead w n) g 0 d).heap.size = w.heap.size := size_putRow id (Sort.ahead w n) g 0 _
    omega
  · show ((putRowK nmV 2 (Sort.ahead w n) g 0 d).heap ++ os)[k]? = w.heap[k]?
    have hs : (putRowK nmV 2 (Sort.ahead w n) g 0 d).heap.size = w.heap.size := size_putRow id (Sort.ahead w n) g 0 _
    rw [Array.getElem?_append_left (by omega)]
    show (w.heap.modify g _)[k]? = w.heap[k]?
    rw [Array.getElem?_modify, if_neg (fun e => hne (by rw [e]))]
/-- slices.SortFunc at names that the call owns: they are read in order. -/
theorem sortN_any (base : Nat) (l : List Nm) (v : Value) (w : World) (hov : OwnV w base 24 2 nmV l v) (hB : base ≤ w.heap.size) (hl : l.length < 4000000) :
    Calls Tryz.prog 91 #[v, .func (.func 55) #[] #[]] w fun e w' => e = .returned (.tuple #[]) ∧ (∃ A c ns, v = .slice A ns.length c ∧ ns.Perm l ∧ ns.Pairwise (fun x y => ltN y x = false) ∧ RowV w' (fun b => base ≤ b) 2 nmV ns A ns.length ∧ ns.length ≤ c) ∧ Below base w w' := by
  rcases hov.2 with ⟨rfl, hn⟩ | ⟨g, cap, cur, rfl, hg, hh, hnc, hcm, hsize, hcur⟩
  · have hl0 : l = [] := List.eq_nil_of_length_eq_zero hn
    subst hl0
    have h := AnyF.slices_SortFunc_none Tryz.sort91 none 0 (.func (.func 55) #[] #[]) w
    refine Calls.mono (P := Tryz.prog) (f := 91) h ?_
    rintro e w' ⟨rfl, rfl⟩
    exact ⟨rfl, ⟨none, 0, [], rfl, List.Perm.refl _, List.Pairwise.nil, RowV.nil _ _ _ _ _, Nat.le_refl _⟩, Below.refl _ _⟩
  · have hne : g < w.heap.size := hp_lt hh
    have h := AnyQ.slices_SortFunc_total Tryz.sort91 2 (fun w => by kernel_rfl) (fun w => by kernel_rfl) nmV nm_len (fun x u hu => by simp [nmV] at hu; rcases hu with rfl | rfl <;> rfl) cmpN swoN 55 #[] g 0 cap l.toArray w (enters_of Tryz.func55 (by kernel_rfl) rfl) (cmpLaysN _ _ _ _) (holdsK_of_cells hh hcur) hne (by simp; omega) (fun x y h k => by rw [ltOf_cmpN] at h k; exact ltN_total h k)
    rw [List.size_toArray] at h
    refine Calls.mono (P := Tryz.prog) (f := 91) h ?_
    rintro e w' ⟨rfl, n, os, rfl⟩
    obtain ⟨ns, hns⟩ : ∃ ns, (l.toArray.toList.mergeSort fun x y => !(ltOf cmpN) y x) = ns := ⟨_, rfl⟩
    have hp : ns.Perm l := by rw [← hns]; exact List.mergeSort_perm _ _
    have hpw : ns.Pairwise (fun x y => ltN y x = false) := by
      have := List.pairwise_mergeSort (le := fun x y => !(ltOf cmpN) y x) (fun a b c h1 h2 => by
        simp only [ltOf_cmpN, Bool.not_eq_true'] at *
        exact ltN_ntrans h2 h1) (fun a b => by
        simp only [ltOf_cmpN]
        cases h1 : ltN b a with
        | false => rfl
        | true =>
          cases h2 : ltN a b with
          | false => rfl
          | true => have := ltN_trans h1 h2; rw [ltN_irrefl] at this; cases this) l.toArray.toList
      rw [hns] at this
      exact this.imp fun h => by simpa [ltOf_cmpN] using h
    rw [hns]
    have hlen : ns.length = l.length := hp.length_eq
    have hH := holdsK_sortWorldK nmV 2 w g 0 n l.toArray ns.toArray os hne (holdsK_of_cells hh hcur) (by simp [hlen])
    refine ⟨rfl, ⟨some ⟨g, 0, none⟩, cap, ns, by rw [hlen], hp, hpw, ⟨rfl, fun _ => ⟨g, 0, rfl, hg, cells_of_holdsK hH⟩⟩, by omega⟩, ?_⟩
    have hgr := grownBy_sortK (w := w) (g := g) (n := n) (os := os) ns.toArray
    exact ⟨hgr.os, hgr.tape, hgr.output, hgr.size, fun k hk => hgr.block k (by omega) (fun e => by have := Option.some.inj e; omega)⟩
end Go.Proofs.YtfildbkkmnfekaaGreatDoor
