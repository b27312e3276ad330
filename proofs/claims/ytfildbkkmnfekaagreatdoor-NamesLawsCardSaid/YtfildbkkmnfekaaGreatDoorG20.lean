/- Plain laws: the two checks agree; of a checked class the two memberships agree. What normal returns. -/
import Derived.Test.YtfildbkkmnfekaaGreatDoorG16
import Derived.Test.YtfildbkkmnfekaaGreatDoorG18
import Derived.Test.YtfildbkkmnfekaaGreatDoorMenA
import Derived.Test.YtfildbkkmnfekaaGreatDoorDatA
import Derived.WalkKit
import Derived.WalkSpells
import Derived.WalkLawsBesides
import Derived.BigGuardPart
import Derived.Lib.Hide
import Derived.Deep.QuietTactic
import Derived.BigQuiet
import Derived.StillTailTactics
import Derived.Deep.DeepCutAuto
import Derived.Deep.CutBlock
import Derived.Laws.EntriesVeiled
namespace Go.Proofs.YtfildbkkmnfekaaGreatDoor
open Go.RowKit

mutual
/-- How many classes are in each other. -/
def dpC : Cls → Nat
  | .mk _ _ _ _ ex ar => 1 + max (dpL ex) (dpL ar)
def dpL : List Cls → Nat
  | [] => 0
  | c :: l => max (dpC c) (dpL l)
end
theorem numC_pos (c : Cls) : 1 ≤ numC c := by cases c; rw [numC]; omega
theorem dpC_pos (c : Cls) : 1 ≤ dpC c := by cases c; rw [dpC]; omega
mutual
theorem countC_eq : ∀ (c : Cls) (r : Nat), (dpC c ≤ r → numC c ≤ 100 → countC r c = numC c) ∧ (r < dpC c ∨ 100 < numC c → 100 < countC r c)
  | .mk k ns nl s ex ar, 0 => by
    have := dpC_pos (.mk k ns nl s ex ar)
    rw [countC]; exact ⟨fun h => by omega, fun _ => by omega⟩
  | .mk k ns nl s ex ar, r + 1 => by
    rw [countC, dpC, numC]
    obtain ⟨h1, h2⟩ := countL_eq ex r 1
    by_cases he : dpL ex ≤ r ∧ 1 + numL ex ≤ 100
    · rw [h1 he.1 he.2]
      obtain ⟨h3, h4⟩ := countL_eq ar r (1 + numL ex)
      exact ⟨fun a b => h3 (by omega) (by omega), fun a => h4 (by omega)⟩
    · have h5 := h2 (by omega)
      obtain ⟨h3, h4⟩ := countL_eq ar r (countL r 1 ex)
      exact ⟨fun a b => by omega, fun _ => h4 (by omega)⟩
theorem countL_eq : ∀ (l : List Cls) (r n : Nat), (dpL l ≤ r → n + numL l ≤ 100 → countL r n l = n + numL l) ∧ (r < dpL l ∨ 100 < n + numL l → 100 < countL r n l)
  | [], r, n => by rw [countL, dpL, numL]; exact ⟨fun _ _ => by omega, fun h => by omega⟩
  | c :: l, r, n => by
    rw [countL, dpL, numL]
    by_cases hn : n < 100000
    · rw [if_pos hn]
      obtain ⟨h1, h2⟩ := countC_eq c r
      obtain ⟨h3, h4⟩ := countL_eq l r (n + countC r c)
      by_cases he : dpC c ≤ r ∧ numC c ≤ 100
      · have h5 := h1 he.1 he.2
        rw [h5] at h3 h4 ⊢
        exact ⟨fun a b => by rw [h3 (by omega) (by omega)]; omega, fun a => h4 (by omega)⟩
      · have h5 := h2 (by omega)
        exact ⟨fun a b => by omega, fun a => h4 (by omega)⟩
    · rw [if_neg hn]; exact ⟨fun a b => by omega, fun _ => by omega⟩
end
theorem kind_rest (k : Int) (ns nl s : ByteArray) (n n' : Nat) : (kindW k ns nl s n n' && restW k ns nl s n n') = nodeB k ns nl s n n' := by
  unfold kindW restW nodeB
  by_cases h1 : k = 1
  · subst h1
    simp
    by_cases hn : n = 0
    · subst hn; simp [Bool.and_assoc]
    · simp [hn]
  · by_cases h2 : k = 2
    · subst h2
      simp
      cases (eqS ns ⟨#[]⟩) <;> cases (eqS nl ⟨#[]⟩) <;> simp [Bool.and_assoc]
    · by_cases h3 : k = 3
      · subst h3; simp [Bool.and_assoc]
      · by_cases h4 : k = 4
        · subst h4
          by_cases hn : n = 0
          · subst hn
            by_cases hn' : 0 < n'
            · simp [hn', show 1 ≤ n' by omega, Bool.and_assoc]
            · simp [hn', show ¬ 1 ≤ n' by omega]
          · simp [hn]
        · simp [h1, h2, h3, h4]
mutual
theorem walkC_eq2 : ∀ (c : Cls) (d m : Nat) (f : Bool), m ≤ 100 → (dpC c + d ≤ 11 → m + numC c ≤ 100 → walkC d c m f = (m + numC c, (f && formC c), true)) ∧ (11 < dpC c + d ∨ 100 < m + numC c → (walkC d c m f).2.2 = false)
  | .mk k ns nl s ex ar, d, m, f, hm => by
    rw [walkC, dpC, numC, formC]
    by_cases h0 : 10 < d ∨ 100 < m + 1
    · rw [if_pos h0]; exact ⟨fun a b => by omega, fun _ => rfl⟩
    · rw [if_neg h0]
      obtain ⟨h1, h2⟩ := walkL_eq2 ex (d + 1) (m + 1) (f && kindW k ns nl s ex.length ar.length && restW k ns nl s ex.length ar.length) (by omega) (by omega)
      by_cases he : dpL ex + (d + 1) ≤ 11 ∧ m + 1 + numL ex ≤ 100
      · have h5 := h1 he.1 he.2
        rw [h5]
        simp only [if_true]
        obtain ⟨h3, h4⟩ := walkL_eq2 ar (d + 1) (m + 1 + numL ex) (f && kindW k ns nl s ex.length ar.length && restW k ns nl s ex.length ar.length && formL ex) (by omega) (by omega)
        refine ⟨fun a b => ?_, fun a => h4 (by omega)⟩
        rw [h3 (by omega) (by omega)]
        have hk := kind_rest k ns nl s ex.length ar.length
        rw [Bool.and_assoc f, hk]
        refine Prod.ext (by simp; omega) (Prod.ext ?_ rfl)
        simp only
        cases f <;> cases formL ex <;> cases formL ar <;> simp
      · have h5 := h2 (by omega)
        simp only [h5]
        exact ⟨fun a b => by omega, fun _ => h5⟩
theorem walkL_eq2 : ∀ (l : List Cls) (d m : Nat) (f : Bool), m ≤ 100 → d ≤ 11 → (dpL l + d ≤ 11 → m + numL l ≤ 100 → walkL d l m f = (m + numL l, (f && formL l), true)) ∧ (11 < dpL l + d ∨ 100 < m + numL l → (walkL d l m f).2.2 = false)
  | [], d, m, f, hm, hd => by rw [walkL, dpL, numL, formL]; exact ⟨fun _ _ => by simp, fun h => by omega⟩
  | c :: l, d, m, f, hm, hd => by
    rw [walkL, dpL, numL, formL]
    obtain ⟨h1, h2⟩ := walkC_eq2 c d m f hm
    by_cases he : dpC c + d ≤ 11 ∧ m + numC c ≤ 100
    · have h5 := h1 he.1 he.2
      rw [h5]
      simp only [if_true]
      obtain ⟨h3, h4⟩ := walkL_eq2 l d (m + numC c) (f && formC c) (by omega) hd
      refine ⟨fun a b => ?_, fun a => h4 (by omega)⟩
      rw [h3 (by omega) (by omega), Bool.and_assoc, Nat.add_assoc]
    · have h5 := h2 (by omega)
      simp only [h5]
      exact ⟨fun a b => by omega, fun _ => h5⟩
end
theorem chk_eq (c : Cls) : chkN c = chkR c := by
  unfold chkN chkR
  obtain ⟨h1, h2⟩ := countC_eq c 10
  obtain ⟨h3, h4⟩ := walkC_eq2 c 1 0 true (by omega)
  by_cases he : dpC c ≤ 10 ∧ numC c ≤ 100
  · have e1 : ¬ 100 < numC c := by omega
    rw [h3 (by omega) (by omega), h1 he.1 he.2, if_neg e1]
    simp
  · have e1 : 100 < countC 10 c := h2 (by omega)
    rw [h4 (by omega), if_pos e1]
    simp
theorem chkR_zero {c : Cls} (h : chkR c = 0) : numC c ≤ 100 ∧ formC c = true := by
  unfold chkR at h
  obtain ⟨h1, h2⟩ := countC_eq c 10
  split at h
  · simp at h
  · rename_i h3
    refine ⟨?_, ?_⟩
    · by_cases he : numC c ≤ 100
      · exact he
      · exact absurd (h2 (.inr (by omega))) h3
    · by_cases hf : formC c = true
      · exact hf
      · rw [if_neg hf] at h; simp at h
theorem chkR_cases (c : Cls) : chkR c = 0 ∨ chkR c = 2 ∨ chkR c = 3 := by
  unfold chkR
  split
  · exact .inr (.inr rfl)
  · split
    · exact .inl rfl
    · exact .inr (.inl rfl)
theorem nodeB_facts {k : Int} {ns nl s : ByteArray} {n n' : Nat} (h : nodeB k ns nl s n n' = true) : n ≤ 1 ∧ (k = 1 ∨ k = 2 ∨ k = 3 ∨ k = 4) ∧ (k ≠ 4 → n' = 0) ∧ (k = 1 → validB ns nl = true) ∧ (k = 2 → s.size ≤ 200) := by
  unfold nodeB at h
  by_cases h1 : k = 1
  · subst h1; simp at h; obtain ⟨⟨⟨h1, h2⟩, h3⟩, h4⟩ := h; subst h3; exact ⟨by omega, .inl rfl, fun _ => h4, fun _ => h1, fun h => by simp at h⟩
  · rw [if_neg h1] at h
    by_cases h2 : k = 2
    · subst h2; simp at h; obtain ⟨⟨⟨h1, h2⟩, h3⟩, h4⟩ := h; exact ⟨h3, .inr (.inl rfl), fun _ => h4, fun h => by simp at h, fun _ => h2⟩
    · rw [if_neg h2] at h
      by_cases h3 : k = 3
      · subst h3; simp at h; obtain ⟨⟨_, h3⟩, h4⟩ := h; exact ⟨h3, .inr (.inr (.inl rfl)), fun _ => h4, fun h => by simp at h, fun h => by simp at h⟩
      · rw [if_neg h3] at h
        by_cases h4 : k = 4
        · subst h4; simp at h; obtain ⟨⟨_, h3⟩, h4⟩ := h; subst h3; exact ⟨by omega, .inr (.inr (.inr rfl)), fun h => absurd rfl h, fun h => by simp at h, fun h => by simp at h⟩
        · rw [if_neg h4] at h; cases h
mutual
theorem hasC_eq (a b : ByteArray) : ∀ c, formC c = true → hasC c a b = inC c a b
  | .mk k ns nl s ex ar, h => by
    rw [formC, Bool.and_eq_true, Bool.and_eq_true] at h
    obtain ⟨⟨h1, h2⟩, h3⟩ := h
    obtain ⟨g1, g2, g3, _⟩ := nodeB_facts h3
    rw [hasC, inC, hasL_eq a b ex h1, hasL_eq a b ar h2]
    have e1 : inL ex a b = inH ex a b := by
      match ex, g1 with
      | [], _ => rw [inL, inH]
      | [e], _ => rw [inL, inH, inL, Bool.or_false]
      | _ :: _ :: _, g => simp at g
    rw [e1]
    congr 1
    rcases g2 with rfl | rfl | rfl | rfl <;> simp
theorem hasL_eq (a b : ByteArray) : ∀ l, formL l = true → hasL l a b = inL l a b
  | [], _ => by rw [hasL, inL]
  | c :: l, h => by
    rw [formL, Bool.and_eq_true] at h
    rw [hasL, inL, hasC_eq a b c h.1, hasL_eq a b l h.2]
end
theorem hasRes_eq (c : Cls) (a b : ByteArray) : hasRes (chkN c) (validB a b) (hasC c a b) = hasRes (chkR c) (validB a b) (inC c a b) := by
  rw [chk_eq]
  unfold hasRes
  split
  · rename_i h; rw [hasC_eq a b c (chkR_zero h).2]
  · rfl
end Go.Proofs.YtfildbkkmnfekaaGreatDoor
namespace Go.Proofs.YtfildbkkmnfekaaGreatDoor
open Go.RowKit

/-- The class of one name. -/
def nmC (x : Nm) : Cls := .mk 1 x.1 x.2 ⟨#[]⟩ [] []
def spC (s : ByteArray) : List Cls → Cls
  | [] => .mk 2 ⟨#[]⟩ ⟨#[]⟩ s [] []
  | l => .mk 2 ⟨#[]⟩ ⟨#[]⟩ s [togC l] []
def zeroC : Cls := .mk 0 ⟨#[]⟩ ⟨#[]⟩ ⟨#[]⟩ [] []
def anyC (ex : List Cls) : Cls := .mk 3 ⟨#[]⟩ ⟨#[]⟩ ⟨#[]⟩ ex []
/-- The names of a space that are not as its fresh name is. -/
def sglL (f : Nm → Bool) (s : ByteArray) (full : Bool) (l : List Nm) : List Cls := (l.filter fun x => eqS x.1 s && (f x != full)).map nmC
noncomputable def oddS (f : Nm → Bool) (names : List Nm) (wide : Bool) (s : ByteArray) : List Cls :=
  if f (freshN names [] s) = wide then sglL f s (f (freshN names [] s)) names else [spC s (sglL f s (f (freshN names [] s)) names)]
noncomputable def oddL (f : Nm → Bool) (names : List Nm) (wide : Bool) (l : List ByteArray) : List Cls := l.flatMap (oddS f names wide)
def outC : Bool → List Cls → Cls
  | true, [] => anyC []
  | true, l => anyC [togC l]
  | false, [] => anyC [anyC []]
  | false, l => togC l
/-- What both normal return. -/
noncomputable def normF (chk : Cls → Int) (f : Nm → Bool) (m : Men) : Cls × Int :=
  if chk (outC (f (freshN m.1 [] (newS m.2))) (oddL f m.1 (f (freshN m.1 [] (newS m.2))) m.2)) = 0 then (outC (f (freshN m.1 [] (newS m.2))) (oddL f m.1 (f (freshN m.1 [] (newS m.2))) m.2), 0) else (zeroC, 3)
theorem sglL_snoc {f : Nm → Bool} {s : ByteArray} {full : Bool} {l : List Nm} {k : Nat} {x : Nm} (h : l[k]? = some x) :
    sglL f s full (l.take (k + 1)) = sglL f s full (l.take k) ++ (if eqS x.1 s && (f x != full) then [nmC x] else []) := by
  obtain ⟨h1, rfl⟩ := List.getElem?_eq_some_iff.1 h
  unfold sglL
  rw [List.take_succ_eq_append_getElem h1, List.filter_append, List.map_append]
  congr 1
  cases hc : (eqS l[k].1 s && (f l[k] != full)) <;> simp [hc]
theorem oddL_snoc {f : Nm → Bool} {names : List Nm} {wide : Bool} {l : List ByteArray} {k : Nat} {s : ByteArray} (h : l[k]? = some s) :
    oddL f names wide (l.take (k + 1)) = oddL f names wide (l.take k) ++ oddS f names wide s := by
  obtain ⟨h1, rfl⟩ := List.getElem?_eq_some_iff.1 h
  unfold oddL
  rw [List.take_succ_eq_append_getElem h1, List.flatMap_append]; simp
theorem sglL_len (f : Nm → Bool) (s : ByteArray) (full : Bool) (l : List Nm) : (sglL f s full l).length ≤ l.length := by
  unfold sglL; rw [List.length_map]; exact List.length_filter_le _ _
theorem nmC_rep (x : Nm) (w : World) (F : Nat → Prop) (A A' : Option Addr) (c c' : Nat) : RepC w F (nmC x) [.int .i64 1, .string x.1, .string x.2, .string ⟨#[]⟩, .slice A 0 c, .slice A' 0 c'] := by
  unfold nmC; rw [RepC]
  exact ⟨A, c, A', c', rfl, by simp, by simp, fun h => by simp at h, fun h => by simp at h⟩
theorem sgl_leaf {f : Nm → Bool} {s : ByteArray} {full : Bool} {l : List Nm} {w : World} : ∀ c ∈ sglL f s full l, ∀ (F G : Nat → Prop) cs, RepC w F c cs → RepC w G c cs := by
  intro c hc F G cs h
  unfold sglL at hc
  obtain ⟨x, _, rfl⟩ := List.mem_map.1 hc
  unfold nmC at h ⊢
  rw [RepC] at h ⊢
  obtain ⟨A, c, A', c', e, h1, h2, h3, h4⟩ := h
  exact ⟨A, c, A', c', e, h1, h2, fun h => by simp at h, fun h => by simp at h⟩
/-- A new slice of one class, laid in a block of its own. -/
theorem RowL.one {w : World} {F : Nat → Prop} {c : Cls} {cs : List Value} {g : Nat} {t : TypeId} {fr : Nat × Nat} (h : RepC w F c cs) (hg : w.heap[g]? = some (.cells cs.toArray t fr)) (hF : F g) : RowL w F [c] (some ⟨g, 0, none⟩) 1 := by
  refine ⟨rfl, fun _ => ⟨g, 0, rfl, hF, ?_⟩⟩
  rw [RepR, RepR]
  exact ⟨⟨cs, fun j u hu => by rw [cell_of_row w g _ _ _ _ hg]; simpa using hu, h⟩, trivial⟩
theorem RepC.mk' {w : World} {F : Nat → Prop} {k : Int} {ns nl s : ByteArray} {ex ar : List Cls} {A A' : Option Addr} {n c n' c' : Nat} (h1 : RowL w F ex A n) (h2 : RowL w F ar A' n') (hn : n < 2000000000000) (hn' : n' < 2000000000000) :
    RepC w F (.mk k ns nl s ex ar) [.int .i64 k, .string ns, .string nl, .string s, .slice A n c, .slice A' n' c'] := by
  rw [RepC]
  refine ⟨A, c, A', c', ?_, by rw [← h1.1]; exact hn, by rw [← h2.1]; exact hn', h1.2, h2.2⟩
  rw [← h1.1, ← h2.1]
theorem RowL.nil (w : World) (F : Nat → Prop) (A : Option Addr) : RowL w F [] A 0 := ⟨rfl, fun h => by simp at h⟩
theorem RowL.keepF {w w' : World} {F : Nat → Prop} {l : List Cls} {A : Option Addr} {n : Nat} (h : RowL w F l A n) (hb : Below w.heap.size w w') : RowL w' F l A n := ⟨h.1, fun hp => by
  obtain ⟨b, off, hA, hb1, hr⟩ := h.2 hp
  have hlt := RepR.lt' l b off (by intro e; rw [e] at hp; simp at hp) hr
  exact ⟨b, off, hA, hb1, RepR.keep (fun b hb1 hl => ⟨hb1, hb.block b hl⟩) l b off (hb.block b hlt) hr⟩⟩
theorem RepC.keepF {w w' : World} {F : Nat → Prop} {c : Cls} {cs : List Value} (h : RepC w F c cs) (hb : Below w.heap.size w w') : RepC w' F c cs := RepC.keep (fun b hb1 hl => ⟨hb1, hb.block b hl⟩) _ _ h
theorem oddL_len (f : Nm → Bool) (names : List Nm) (wide : Bool) (l : List ByteArray) : (oddL f names wide l).length ≤ l.length * (names.length + 1) := by
  induction l with
  | nil => simp [oddL]
  | cons s l ih =>
    have h1 : (oddS f names wide s).length ≤ names.length + 1 := by
      unfold oddS
      split
      · have := sglL_len f s (f (freshN names [] s)) names; omega
      · simp
    unfold oddL at ih ⊢
    rw [List.flatMap_cons, List.length_append, List.length_cons, Nat.add_mul]; omega
theorem oddS_eq {f : Nm → Bool} {names : List Nm} {wide full : Bool} {s : ByteArray} (h : f (freshN names [] s) = full) (e : full = wide) : oddS f names wide s = sglL f s full names := by
  unfold oddS; rw [h, if_pos e]
theorem oddS_ne {f : Nm → Bool} {names : List Nm} {wide full : Bool} {s : ByteArray} (h : f (freshN names [] s) = full) (e : full ≠ wide) : oddS f names wide s = [spC s (sglL f s full names)] := by
  unfold oddS; rw [h, if_neg e]
theorem spC_ne {s : ByteArray} {l : List Cls} (h : l ≠ []) : spC s l = .mk 2 ⟨#[]⟩ ⟨#[]⟩ s [togC l] [] := by
  cases l with
  | nil => exact absurd rfl h
  | cons x l => rfl
theorem OwnC.sep {w : World} {base : Nat} {l : List Cls} {v : Value} (h : OwnC w base l v) {X : Nat} (hX : w.heap.size ≤ X) : ∀ b, X ≤ b → some b ≠ v.ownBlock := by
  intro b hb e
  have := (OwnD.block h b e).2
  omega
/-- A row of leaves that the call owns. -/
theorem OwnC.leaves {w : World} {base : Nat} {l : List Cls} {v : Value} (h : OwnC w base l v) (hleaf : ∀ c ∈ l, ∀ (F G : Nat → Prop) cs, RepC w F c cs → RepC w G c cs) :
    ∃ A c, v = .slice A l.length c ∧ RowL w (fun b => base ≤ b ∧ b < w.heap.size) l A l.length ∧ l.length ≤ c ∧ c ≤ maxLen := by
  obtain ⟨xs, h1, h2, h3⟩ := h
  obtain ⟨A, c, hv, hrow, hc, hm⟩ := h1.row cN_len (by decide)
  rw [List.length_map] at h2
  rw [h2] at hv hc
  refine ⟨A, c, hv, rowL_iff.2 ⟨rfl, fun hp => ?_⟩, hc, hm⟩
  obtain ⟨b, off, hA, hb, hr⟩ := hrow.2 (by omega)
  refine ⟨b, off, hA, hb, RepRow.of_get fun i d hd => ?_⟩
  have hi : i < l.length := by have := (List.getElem?_eq_some_iff.1 hd).1; simpa using this
  have hix : i < xs.length := by omega
  have hd' : clsD l[i] = d := by rw [List.getElem?_map, List.getElem?_eq_getElem hi] at hd; simpa using hd
  refine ⟨_, hr i xs[i] (List.getElem?_eq_getElem hix), ?_⟩
  have h4 := h3 i d xs[i] hd (List.getElem?_eq_getElem hix)
  rw [← hd'] at h4 ⊢
  exact (repC_iff _ _ _ _).1 (hleaf l[i] (List.getElem_mem hi) _ _ _ ((repC_iff _ _ _ _).2 h4))
end Go.Proofs.YtfildbkkmnfekaaGreatDoor
