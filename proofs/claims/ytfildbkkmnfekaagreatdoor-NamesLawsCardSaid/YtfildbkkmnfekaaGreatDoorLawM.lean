/- Plain laws: the normal class has the set; it depends on the set alone. Plain laws of NamesLaws: normal classes and sets; the witness; the pieces. is, pieces: of NamesLaws. The walk of NamesLaws. -/
import Derived.Test.YtfildbkkmnfekaaGreatDoorPlnS
import Derived.Test.YtfildbkkmnfekaaGreatDoorG39
import Derived.Test.YtfildbkkmnfekaaGreatDoorG20
import Derived.Test.YtfildbkkmnfekaaGreatDoorRNorm
import Derived.Test.YtfildbkkmnfekaaGreatDoorSetP
import Derived.Test.YtfildbkkmnfekaaGreatDoorWitA
import Derived.Test.YtfildbkkmnfekaaGreatDoorAskE
import Derived.Test.YtfildbkkmnfekaaGreatDoorG18
import Derived.Test.YtfildbkkmnfekaaGreatDoorShwA
import Derived.Test.YtfildbkkmnfekaaGreatDoorComb
import Derived.WalkKit
import Derived.WalkSpells
import Derived.WalkLawsBesides
import Derived.BigGuardPart
import Derived.Lib.Hide
import Derived.Deep.QuietTactic
import Derived.BigQuiet
import Derived.StillTailTactics
import Derived.Deep.DeepCutAuto
import Derived.Deep.CutBlock
import Derived.Laws.EntriesVeiled
namespace Go.Proofs.YtfildbkkmnfekaaGreatDoor
open Go.RowKit

/-- What is mentioned: rightly listed. -/
structure MenOk (m : Men) : Prop where
  sp : ∀ n ∈ m.1, n.1 ∈ m.2
  asc1 : m.1.Pairwise (fun x y => ltN x y = true)
  asc2 : m.2.Pairwise (fun x y => ltS x y = true)
/-- f depends on what is mentioned alone. -/
def DepOn (f : Nm → Bool) (m : Men) : Prop := ∀ x y : Nm, (∀ n ∈ m.1, (x = n ↔ y = n)) → (∀ s ∈ m.2, (x.1 = s ↔ y.1 = s)) → f x = f y
mutual
theorem mnC_sp : ∀ (c : Cls) (n : Nm), n ∈ mnC c → n.1 ∈ msC c
  | .mk k ns nl s ex ar, n, h => by
    rw [mnC, List.mem_append, List.mem_append] at h
    rw [msC, List.mem_append, List.mem_append]
    rcases h with (h | h) | h
    · by_cases e : k = 1
      · rw [if_pos e] at h
        rw [if_pos e]
        obtain rfl := List.mem_singleton.1 h
        simp
      · rw [if_neg e] at h; simp at h
    · exact .inl (.inr (mnL_sp ex n h))
    · exact .inr (mnL_sp ar n h)
theorem mnL_sp : ∀ (l : List Cls) (n : Nm), n ∈ mnL l → n.1 ∈ msL l
  | [], n, h => by rw [mnL] at h; simp at h
  | c :: l, n, h => by
    rw [mnL, List.mem_append] at h
    rw [msL, List.mem_append]
    exact h.imp (mnC_sp c n) (mnL_sp l n)
end
theorem menOk_addL (l : List Cls) : MenOk (addL l ([], [])) where
  sp := fun n hn => by
    rw [(mem_addL l ([], [])).1] at hn
    rw [(mem_addL l ([], [])).2]
    exact hn.imp (mnL_sp l n) (fun h => by simp at h)
  asc1 := (MRel.all [] l).asc1
  asc2 := (MRel.all [] l).asc2
theorem dep_in {l : List Cls} {c : Cls} (hc : c ∈ l) {x y : Nm} (h1 : ∀ n ∈ (addL l ([], [])).1, (x = n ↔ y = n)) (h2 : ∀ s ∈ (addL l ([], [])).2, (x.1 = s ↔ y.1 = s)) : inC c x.1 x.2 = inC c y.1 y.2 :=
  inC_same c (fun n hn => h1 n (((mem_addL l ([], [])).1 n).2 (.inl ((mnC_mem hc).1 n hn)))) (fun s hs => h2 s (((mem_addL l ([], [])).2 s).2 (.inl ((mnC_mem hc).2 s hs))))
theorem dep_fHow (how : Int) (c1 c2 : Cls) (l : List Cls) (h1 : c1 ∈ l) (h2 : c2 ∈ l) : DepOn (fHow how c1 c2) (addL l ([], [])) := fun x y ha hb => by
  unfold fHow; rw [dep_in h1 ha hb, dep_in h2 ha hb]
section
variable {f : Nm → Bool} {m : Men}
/-- Names of other spaces are as the new space's. -/
theorem dep_wide (hm : MenOk m) (hf : DepOn f m) {y : Nm} (hy : y.1 ∉ m.2) : f y = f (freshN m.1 [] (newS m.2)) := by
  refine hf _ _ (fun n hn => ⟨fun e => absurd (by rw [e]; exact hm.sp n hn) hy, fun e => absurd (by rw [e]; exact hn) (fresh_not m.1 [] (newS m.2)).1⟩) (fun s hs => ⟨fun e => absurd (by rw [e]; exact hs) hy, fun e => absurd (by rw [show newS m.2 = s from e]; exact hs) (new_not m.2)⟩)
/-- Names that are not mentioned are as their space's fresh name. -/
theorem dep_full (hf : DepOn f m) {y : Nm} (hy : y ∉ m.1) : f y = f (freshN m.1 [] y.1) :=
  hf _ _ (fun n hn => ⟨fun e => absurd (by rw [e]; exact hn) hy, fun e => absurd (by rw [e]; exact hn) (fresh_not m.1 [] y.1).1⟩) (fun s _ => Iff.rfl)
/-- Each name is as one of the candidates. -/
theorem dep_cand (hm : MenOk m) (hf : DepOn f m) (y : Nm) : ∃ x ∈ candN m [], f x = f y := by
  by_cases h1 : y ∈ m.1
  · exact ⟨y, by unfold candN; simp [h1], rfl⟩
  · by_cases h2 : y.1 ∈ m.2
    · exact ⟨freshN m.1 [] y.1, by unfold candN; simp; exact .inr (.inl ⟨_, h2, rfl⟩), (dep_full hf h1).symm⟩
    · exact ⟨freshN m.1 [] (newS m.2), by unfold candN; simp, (dep_wide hm hf h2).symm⟩
theorem someF_iff (hm : MenOk m) (hf : DepOn f m) : someF f m = true ↔ ∃ y, f y = true := by
  unfold someF
  rw [List.any_eq_true]
  exact ⟨fun ⟨x, _, h⟩ => ⟨x, h⟩, fun ⟨y, h⟩ => by obtain ⟨x, hx, e⟩ := dep_cand hm hf y; exact ⟨x, hx, e.trans h⟩⟩
end
theorem eqS_refl' (a : ByteArray) : eqS a a = true := eqS_iff.2 rfl
theorem inL_app : ∀ (l l' : List Cls) (a b : ByteArray), inL (l ++ l') a b = (inL l a b || inL l' a b)
  | [], l', a, b => by rw [List.nil_append, inL]; rfl
  | c :: l, l', a, b => by rw [List.cons_append, inL, inL, inL_app l l', Bool.or_assoc]
theorem inL_any (l : List Cls) (a b : ByteArray) : inL l a b = l.any (fun c => inC c a b) := by
  induction l with
  | nil => rw [inL]; rfl
  | cons c l ih => rw [inL, ih]; rfl
theorem inC_tog (l : List Cls) (a b : ByteArray) : inC (togC l) a b = inL l a b := by
  have h4 : ∀ l : List Cls, inC (.mk 4 ⟨#[]⟩ ⟨#[]⟩ ⟨#[]⟩ [] l) a b = inL l a b := fun l => by
    rw [inC, inH]; simp
  match l with
  | [] => exact h4 []
  | [c] => rw [togC, inL, inL]; simp
  | c :: d :: l => exact h4 (c :: d :: l)
theorem inC_nm (n : Nm) (a b : ByteArray) : inC (nmC n) a b = (eqS n.1 a && eqS n.2 b) := by
  unfold nmC; rw [inC, inH]; simp
theorem inC_sp (s : ByteArray) (l : List Cls) (a b : ByteArray) : inC (spC s l) a b = (!inL l a b && eqS s a) := by
  cases l with
  | nil => unfold spC; rw [inC, inH, inL]; simp
  | cons c l => unfold spC; rw [inC, inH, inC_tog]; simp
theorem inL_sgl (f : Nm → Bool) (s : ByteArray) (full : Bool) (l : List Nm) (y : Nm) : inL (sglL f s full l) y.1 y.2 = true ↔ y ∈ l ∧ y.1 = s ∧ f y ≠ full := by
  unfold sglL
  rw [inL_any, List.any_eq_true]
  constructor
  · rintro ⟨c, hc, h⟩
    obtain ⟨x, hx, rfl⟩ := List.mem_map.1 hc
    rw [inC_nm, Bool.and_eq_true, eqS_iff, eqS_iff] at h
    obtain rfl : x = y := Prod.ext h.1 h.2
    rw [List.mem_filter, Bool.and_eq_true, eqS_iff] at hx
    exact ⟨hx.1, hx.2.1, by simpa using hx.2.2⟩
  · rintro ⟨h1, h2, h3⟩
    refine ⟨nmC y, List.mem_map.2 ⟨y, ?_, rfl⟩, ?_⟩
    · rw [List.mem_filter, Bool.and_eq_true, eqS_iff]
      exact ⟨h1, h2, by simpa using h3⟩
    · rw [inC_nm, eqS_refl', eqS_refl']; rfl
/-- What a space gives. -/
theorem inL_oddS {f : Nm → Bool} {m : Men} (hf : DepOn f m) (wide : Bool) (s : ByteArray) (y : Nm) : inL (oddS f m.1 wide s) y.1 y.2 = true ↔ y.1 = s ∧ f y ≠ wide := by
  obtain ⟨full, hfull⟩ : ∃ full, f (freshN m.1 [] s) = full := ⟨_, rfl⟩
  have hy : y.1 = s → y ∉ m.1 → f y = full := fun e h => by rw [dep_full hf h, e, hfull]
  unfold oddS
  rw [hfull]
  by_cases hw : full = wide
  · rw [if_pos hw, inL_sgl, hw]
    exact ⟨fun h => h.2, fun h => ⟨Classical.byContradiction fun hn => h.2 ((hy h.1 hn).trans hw), h⟩⟩
  · rw [if_neg hw, inL, inL, Bool.or_false, inC_sp, Bool.and_eq_true, eqS_iff]
    have hb : ∀ b : Bool, (b ≠ full ↔ b = wide) := fun b => by cases b <;> cases full <;> cases wide <;> simp at hw ⊢
    have hs := inL_sgl f s full m.1 y
    cases hc : inL (sglL f s full m.1) y.1 y.2 with
    | true =>
      rw [hc] at hs
      have h3 := (hb _).1 (hs.1 rfl).2.2
      simp [h3]
    | false =>
      rw [hc] at hs
      simp only [Bool.not_false, true_and]
      refine ⟨fun e => ⟨e.symm, fun h => ?_⟩, fun e => e.1.symm⟩
      by_cases h1 : y ∈ m.1
      · have := hs.2 ⟨h1, e.symm, (hb _).2 h⟩; cases this
      · rw [hy e.symm h1] at h; exact hw h
theorem inL_flat (g : ByteArray → List Cls) (a b : ByteArray) : ∀ l : List ByteArray, inL (l.flatMap g) a b = true ↔ ∃ s ∈ l, inL (g s) a b = true
  | [] => by rw [List.flatMap_nil, inL]; simp
  | s :: l => by
    rw [List.flatMap_cons, inL_app, Bool.or_eq_true, inL_flat g a b l]
    constructor
    · intro h
      rcases h with h | ⟨t, h1, h2⟩
      · exact ⟨s, by simp, h⟩
      · exact ⟨t, by simp [h1], h2⟩
    · rintro ⟨t, h1, h2⟩
      rcases List.mem_cons.1 h1 with rfl | h1
      · exact .inl h2
      · exact .inr ⟨t, h1, h2⟩
theorem inL_odd {f : Nm → Bool} {m : Men} (hm : MenOk m) (hf : DepOn f m) (y : Nm) : inL (oddL f m.1 (f (freshN m.1 [] (newS m.2))) m.2) y.1 y.2 = (f y != f (freshN m.1 [] (newS m.2))) := by
  rw [Bool.eq_iff_iff]
  unfold oddL
  rw [inL_flat]
  constructor
  · rintro ⟨s, hs, h⟩
    have := ((inL_oddS hf _ s y).1 h).2
    simpa using this
  · intro h
    have h' : f y ≠ f (freshN m.1 [] (newS m.2)) := by simpa using h
    by_cases hs : y.1 ∈ m.2
    · exact ⟨y.1, hs, (inL_oddS hf _ _ y).2 ⟨rfl, h'⟩⟩
    · exact absurd (dep_wide hm hf hs) h'
theorem inC_out (wide : Bool) (l : List Cls) (a b : ByteArray) : inC (outC wide l) a b = (inL l a b != wide) := by
  have hany : ∀ ex : List Cls, inC (anyC ex) a b = !inH ex a b := fun ex => by unfold anyC; rw [inC]; simp
  cases wide with
  | true =>
    cases l with
    | nil => show inC (anyC []) a b = _; rw [hany, inH, inL]; rfl
    | cons c l => show inC (anyC [togC (c :: l)]) a b = _; rw [hany, inH, inC_tog]; cases inL (c :: l) a b <;> rfl
  | false =>
    cases l with
    | nil => show inC (anyC [anyC []]) a b = _; rw [hany, inH, hany, inH, inL]; rfl
    | cons c l => show inC (togC (c :: l)) a b = _; rw [inC_tog]; cases inL (c :: l) a b <;> rfl
/-- The normal class, whatever its size. -/
noncomputable def nrmC (f : Nm → Bool) (m : Men) : Cls := outC (f (freshN m.1 [] (newS m.2))) (oddL f m.1 (f (freshN m.1 [] (newS m.2))) m.2)
theorem normF_eq (f : Nm → Bool) (m : Men) : normF chkR f m = if chkR (nrmC f m) = 0 then (nrmC f m, 0) else (zeroC, 3) := rfl
/-- THE NORMAL CLASS HAS THE SET. -/
theorem inC_nrm {f : Nm → Bool} {m : Men} (hm : MenOk m) (hf : DepOn f m) (y : Nm) : inC (nrmC f m) y.1 y.2 = f y := by
  unfold nrmC
  rw [inC_out, inL_odd hm hf]
  cases f y <;> cases f (freshN m.1 [] (newS m.2)) <;> rfl
theorem inSs_no {l : List ByteArray} {s : ByteArray} (h : inSs l s = false) : s ∉ l := fun hm => by rw [(inSs_iff _ _).2 hm] at h; cases h
theorem flat_congr {g h : ByteArray → List Cls} : ∀ {l : List ByteArray}, (∀ s ∈ l, g s = h s) → l.flatMap g = l.flatMap h
  | [], _ => rfl
  | s :: l, hs => by rw [List.flatMap_cons, List.flatMap_cons, hs s (by simp), flat_congr (l := l) (fun t ht => hs t (by simp [ht]))]
theorem flat_filter {g : ByteArray → List Cls} {p : ByteArray → Bool} : ∀ {l : List ByteArray}, (∀ s ∈ l, p s = false → g s = []) → l.flatMap g = (l.filter p).flatMap g
  | [], _ => rfl
  | s :: l, h => by
    rw [List.flatMap_cons, List.filter_cons, flat_filter (l := l) (fun t ht => h t (by simp [ht]))]
    cases hp : p s with
    | true => simp
    | false => simp [h s (by simp) hp]
theorem sgl_same {f : Nm → Bool} {m m' : Men} (hm : MenOk m) (hm' : MenOk m') (hf : DepOn f m) (hf' : DepOn f m') (s : ByteArray) (full : Bool) (h1 : f (freshN m.1 [] s) = full) (h2 : f (freshN m'.1 [] s) = full) : sglL f s full m.1 = sglL f s full m'.1 := by
  unfold sglL
  congr 1
  refine asc_eqN (hm.asc1.sublist List.filter_sublist) (hm'.asc1.sublist List.filter_sublist) fun x => ?_
  have key : ∀ {m m' : Men}, DepOn f m' → f (freshN m'.1 [] s) = full → x ∈ m.1.filter (fun x => eqS x.1 s && (f x != full)) → x ∈ m'.1.filter (fun x => eqS x.1 s && (f x != full)) := by
    intro m m' hf' h2 hx
    rw [List.mem_filter] at hx ⊢
    refine ⟨Classical.byContradiction fun hn => ?_, hx.2⟩
    have h3 := hx.2
    rw [Bool.and_eq_true, eqS_iff] at h3
    have h4 := dep_full hf' hn
    rw [h3.1, h2] at h4
    rw [h4] at h3
    simp at h3
  exact ⟨key hf' h2, key hf h1⟩
theorem odd_far {f : Nm → Bool} {m m' : Men} (hm' : MenOk m') (_hf : DepOn f m) (hf' : DepOn f m') (wide : Bool) (hw : f (freshN m'.1 [] (newS m'.2)) = wide) (s : ByteArray) (hs : s ∉ m'.2) : oddS f m.1 wide s = [] := by
  have hall : ∀ y : Nm, y.1 = s → f y = wide := fun y hy => by rw [dep_wide hm' hf' (by rw [hy]; exact hs), hw]
  have h1 : f (freshN m.1 [] s) = wide := hall _ rfl
  unfold oddS
  rw [h1, if_pos rfl]
  unfold sglL
  rw [List.map_eq_nil_iff, List.filter_eq_nil_iff]
  intro x _ h
  rw [Bool.and_eq_true, eqS_iff] at h
  rw [hall x h.1] at h
  simp at h
/-- THE NORMAL CLASS DEPENDS ON THE SET ALONE. -/
theorem nrm_same {f : Nm → Bool} {m m' : Men} (hm : MenOk m) (hm' : MenOk m') (hf : DepOn f m) (hf' : DepOn f m') : nrmC f m = nrmC f m' := by
  have hwide : f (freshN m.1 [] (newS m.2)) = f (freshN m'.1 [] (newS m'.2)) := by
    have hn := new_not (m.2 ++ m'.2)
    rw [List.mem_append, not_or] at hn
    rw [← dep_wide hm hf (y := (newS (m.2 ++ m'.2), ⟨#[]⟩)) hn.1, ← dep_wide hm' hf' (y := (newS (m.2 ++ m'.2), ⟨#[]⟩)) hn.2]
  unfold nrmC
  rw [← hwide]
  obtain ⟨wide, hw⟩ : ∃ wide, f (freshN m.1 [] (newS m.2)) = wide := ⟨_, rfl⟩
  rw [hw] at hwide ⊢
  congr 1
  have full_eq : ∀ s, s ∈ m.2 → s ∈ m'.2 → f (freshN m.1 [] s) = f (freshN m'.1 [] s) := fun s _ _ => by
    have h1 := fresh_not (m.1 ++ m'.1) [] s
    rw [List.mem_append, not_or] at h1
    have a := dep_full hf (y := freshN (m.1 ++ m'.1) [] s) h1.1.1
    have b := dep_full hf' (y := freshN (m.1 ++ m'.1) [] s) h1.1.2
    exact a.symm.trans b
  have e1 : oddL f m.1 wide m.2 = (m.2.filter fun s => inSs m'.2 s).flatMap (oddS f m.1 wide) := flat_filter fun s _ hs => odd_far hm' hf hf' wide hwide.symm s (inSs_no hs)
  have e2 : oddL f m'.1 wide m'.2 = (m'.2.filter fun s => inSs m.2 s).flatMap (oddS f m'.1 wide) := flat_filter fun s _ hs => odd_far hm hf' hf wide hw s (inSs_no hs)
  have e3 : (m.2.filter fun s => inSs m'.2 s) = (m'.2.filter fun s => inSs m.2 s) := asc_eqS (hm.asc2.sublist List.filter_sublist) (hm'.asc2.sublist List.filter_sublist) fun s => by
    rw [List.mem_filter, List.mem_filter, inSs_iff, inSs_iff]
    exact and_comm
  rw [e1, e2, ← e3]
  refine flat_congr fun s hs => ?_
  rw [List.mem_filter] at hs
  have hfe := full_eq s hs.1 ((inSs_iff _ _).1 hs.2)
  unfold oddS
  rw [← hfe, sgl_same hm hm' hf hf' s _ rfl hfe.symm]
end Go.Proofs.YtfildbkkmnfekaaGreatDoor
namespace Go.Proofs.YtfildbkkmnfekaaGreatDoor
open Go.RowKit

theorem sameLF_sound {f : Cls → Cls → Bool} : ∀ {l l' : List Cls}, (∀ c ∈ l, ∀ c', f c c' = true → c = c') → sameLF f l l' = true → l = l'
  | [], [], _, _ => rfl
  | [], _ :: _, _, h => by simp [sameLF] at h
  | _ :: _, [], _, h => by simp [sameLF] at h
  | c :: l, c' :: l', hf, h => by
    rw [sameLF, Bool.and_eq_true] at h
    rw [hf c (by simp) c' h.1, sameLF_sound (fun x hx => hf x (by simp [hx])) h.2]
theorem toList_inj {s s' : ByteArray} (h : s.toList = s'.toList) : s = s' := by
  rw [Lib.toList_data, Lib.toList_data] at h
  exact ByteArray.ext (Array.toList_inj.1 h)
theorem sameC_sound : ∀ (d : Nat) (c c' : Cls), sameC d c c' = true → c = c'
  | 0, c, c', h => by cases c; cases c'; rw [sameC] at h; cases h
  | d + 1, .mk k ns nl s ex ar, .mk k' ns' nl' s' ex' ar', h => by
    rw [sameC] at h
    simp only [Bool.and_eq_true, beq_iff_eq, eqS_iff] at h
    obtain ⟨⟨⟨⟨h1, h2, h3⟩, h4⟩, h5⟩, h6⟩ := h
    rw [h1, h2, h3, toList_inj h4, sameLF_sound (fun c _ c' => sameC_sound d c c') h5, sameLF_sound (fun c _ c' => sameC_sound d c c') h6]
theorem sameC_iff {d : Nat} {c c' : Cls} (h : dpC c ≤ d) : sameC d c c' = true ↔ c = c' := ⟨sameC_sound d c c', fun e => by subst e; exact sameC_refl d c h⟩
/-- The set of two classes, combined; whether there is a name. -/
abbrev men2 (c1 c2 : Cls) : Men := addL [c1, c2] ([], [])
theorem dep2 (how : Int) (c1 c2 : Cls) : DepOn (fHow how c1 c2) (men2 c1 c2) := dep_fHow how c1 c2 _ (by simp) (by simp)
theorem ok2 (c1 c2 : Cls) : MenOk (men2 c1 c2) := menOk_addL _
theorem some2 (how : Int) (c1 c2 : Cls) : someF (fHow how c1 c2) (men2 c1 c2) = true ↔ ∃ y : Nm, truthB how (inC c1 y.1 y.2) (inC c2 y.1 y.2) = true := someF_iff (ok2 c1 c2) (dep2 how c1 c2)
theorem nrm2 (how : Int) (c1 c2 : Cls) (y : Nm) : inC (nrmC (fHow how c1 c2) (men2 c1 c2)) y.1 y.2 = truthB how (inC c1 y.1 y.2) (inC c2 y.1 y.2) := inC_nrm (ok2 c1 c2) (dep2 how c1 c2) y
theorem normF_cases (f : Nm → Bool) (m : Men) : (normF chkR f m = (nrmC f m, 0) ∧ chkR (nrmC f m) = 0) ∨ normF chkR f m = (zeroC, 3) := by
  rw [normF_eq]
  by_cases h : chkR (nrmC f m) = 0
  · rw [if_pos h]; exact .inl ⟨rfl, h⟩
  · rw [if_neg h]; exact .inr rfl
theorem truth3 (x y : Bool) : truthB 3 x y = (x && !y) := rfl
theorem truth2 (x y : Bool) : truthB 2 x y = (x && y) := rfl
theorem truth1 (x y : Bool) : truthB 1 x y = (x || y) := rfl
theorem truth0 (x y : Bool) : truthB 0 x y = x := rfl
/-- b is contained in a. -/
theorem incl_iff (a b : Cls) : (!someF (fHow 3 b a) (men2 b a)) = true ↔ ∀ y : Nm, inC b y.1 y.2 = true → inC a y.1 y.2 = true := by
  rw [Bool.not_eq_true', ← Bool.not_eq_true, some2]
  constructor
  · intro h y hy
    cases hc : inC a y.1 y.2 with
    | true => rfl
    | false => exact absurd ⟨y, by rw [truth3, hy, hc]; rfl⟩ h
  · rintro h ⟨y, hy⟩
    rw [truth3, Bool.and_eq_true, Bool.not_eq_true'] at hy
    rw [h y hy.1] at hy
    cases hy.2
theorem fHow0_eq {a b : Cls} (h : ∀ y : Nm, inC a y.1 y.2 = inC b y.1 y.2) : fHow 0 a a = fHow 0 b b := by
  funext y; unfold fHow; rw [truth0, truth0]; exact h y
/-- Two classes have the same set exactly if each contains the other. -/
theorem both_iff (a b : Cls) : ((!someF (fHow 3 b a) (men2 b a)) && (!someF (fHow 3 a b) (men2 a b))) = true ↔ ∀ y : Nm, inC a y.1 y.2 = inC b y.1 y.2 := by
  rw [Bool.and_eq_true, incl_iff, incl_iff]
  constructor
  · rintro ⟨h1, h2⟩ y
    rw [Bool.eq_iff_iff]
    exact ⟨h2 y, h1 y⟩
  · intro h
    exact ⟨fun y hy => (h y).trans hy, fun y hy => (h y).symm.trans hy⟩
/-- What Normal returns. -/
noncomputable abbrev nrmR (c : Cls) : Cls × Int := normF chkR (fHow 0 c c) (men2 c c)
theorem nrmR_ok {c : Cls} (h : (nrmR c).2 = 0) : (nrmR c).1 = nrmC (fHow 0 c c) (men2 c c) ∧ chkR (nrmR c).1 = 0 ∧ ∀ y : Nm, inC (nrmR c).1 y.1 y.2 = inC c y.1 y.2 := by
  rcases normF_cases (fHow 0 c c) (men2 c c) with ⟨e, h1⟩ | e
  · unfold nrmR
    rw [e]
    exact ⟨rfl, h1, fun y => by rw [nrm2, truth0]⟩
  · unfold nrmR at h; rw [e] at h; cases h
theorem law_same {a b : Cls} (h1 : (nrmR a).2 = 0) (h2 : (nrmR b).2 = 0) {d : Nat} (hd : 10 ≤ d) : sameC d (nrmR a).1 (nrmR b).1 = ((!someF (fHow 3 b a) (men2 b a)) && (!someF (fHow 3 a b) (men2 a b))) := by
  obtain ⟨e1, k1, i1⟩ := nrmR_ok h1
  obtain ⟨e2, k2, i2⟩ := nrmR_ok h2
  rw [Bool.eq_iff_iff, sameC_iff (Nat.le_trans (chkR_dp k1) hd), both_iff]
  constructor
  · intro e y
    rw [← i1 y, ← i2 y, e]
  · intro h
    rw [e1, e2]
    have hf := fHow0_eq h
    rw [hf]
    refine nrm_same (ok2 a a) (ok2 b b) ?_ (dep2 0 b b)
    rw [← hf]; exact dep2 0 a a
theorem law_back {a : Cls} (h1 : (nrmR a).2 = 0) : (!someF (fHow 3 a (nrmR a).1) (men2 a (nrmR a).1)) = true ∧ (!someF (fHow 3 (nrmR a).1 a) (men2 (nrmR a).1 a)) = true := by
  obtain ⟨e1, k1, i1⟩ := nrmR_ok h1
  exact ⟨(incl_iff _ _).2 fun y hy => (i1 y).trans hy, (incl_iff _ _).2 fun y hy => (i1 y).symm.trans hy⟩
theorem law_again {a : Cls} (h1 : (nrmR a).2 = 0) : nrmR (nrmR a).1 = ((nrmR a).1, 0) := by
  obtain ⟨e1, k1, i1⟩ := nrmR_ok h1
  obtain ⟨x, hx⟩ : ∃ x, (nrmR a).1 = x := ⟨_, rfl⟩
  rw [hx] at e1 k1 i1 ⊢
  have hf := fHow0_eq i1
  have e2 : nrmC (fHow 0 x x) (men2 x x) = x := by
    rw [e1, ← e1]
    conv => rhs; rw [e1]
    rw [hf]
    refine nrm_same (ok2 x x) (ok2 a a) ?_ (dep2 0 a a)
    rw [← hf]; exact dep2 0 x x
  unfold nrmR
  rw [normF_eq, e2, if_pos k1]
theorem tailN_len : ∀ n : Nat, (tailN n).length ≤ n := by
  intro n
  induction n using Nat.strongRecOn with
  | _ n ih =>
    by_cases h : 0 < n
    · rw [tailN_step h, List.length_append]
      have := ih (n / 10) (by omega)
      simp; omega
    · have : n = 0 := by omega
      subst this; unfold tailN; simp
theorem numB_size (a : ByteArray) (n : Nat) : a.size ≤ (numB a n).size ∧ (numB a n).size ≤ a.size + n := by
  have := tailN_len n
  unfold numB
  rw [ByteArray.size_append]
  show _ ∧ a.size + (tailN n).toArray.size ≤ _
  simp only [List.size_toArray]
  omega
mutual
theorem mn_valid : ∀ (c : Cls), formC c = true → ∀ n ∈ mnC c, validB n.1 n.2 = true
  | .mk k ns nl s ex ar, h, n, hn => by
    rw [formC, Bool.and_eq_true, Bool.and_eq_true] at h
    rw [mnC, List.mem_append, List.mem_append] at hn
    rcases hn with (hn | hn) | hn
    · by_cases e : k = 1
      · rw [if_pos e] at hn
        obtain rfl := List.mem_singleton.1 hn
        exact (nodeB_facts h.2).2.2.2.1 e
      · rw [if_neg e] at hn; simp at hn
    · exact mnL_valid ex h.1.1 n hn
    · exact mnL_valid ar h.1.2 n hn
theorem mnL_valid : ∀ (l : List Cls), formL l = true → ∀ n ∈ mnL l, validB n.1 n.2 = true
  | [], _, n, hn => by rw [mnL] at hn; simp at hn
  | c :: l, h, n, hn => by
    rw [formL, Bool.and_eq_true] at h
    rw [mnL, List.mem_append] at hn
    rcases hn with hn | hn
    · exact mn_valid c h.1 n hn
    · exact mnL_valid l h.2 n hn
end
theorem validB_mk {a b : ByteArray} (h1 : 1 ≤ b.size) (h2 : b.size ≤ 200) (h3 : a.size ≤ 200) : validB a b = true := by
  unfold validB; simp [h1, h2, h3]
theorem xB_size : xB.size = 1 := rfl
theorem uB_size : uB.size = 1 := rfl
theorem fresh_valid {st : List Nm} {a : ByteArray} (h1 : st.length ≤ 150) (h2 : a.size ≤ 200) : validB (freshN st [] a).1 (freshN st [] a).2 = true := by
  have h := (firstOf_spec (freeN st [] a)).2
  obtain ⟨g1, g2⟩ := numB_size xB (firstOf (takenN st [] a))
  rw [xB_size] at g1 g2
  rw [List.append_nil] at h
  exact validB_mk (b := numB xB (firstOf (takenN st [] a))) (by omega) (by omega) h2
theorem cand_valid {c : Cls} (h : chkR c = 0) : ∀ x ∈ candN (addL [c] ([], [])) [], validB x.1 x.2 = true := by
  obtain ⟨h1, h2⟩ := chkR_zero h
  have hl := addL_len [c] ([], [])
  rw [numL, numL] at hl
  simp at hl
  have hf : formL [c] = true := by rw [formL, formL, h2]; rfl
  have hs := addL_size [c] (m := ([], [])) hf (by simp)
  obtain ⟨m1, m2⟩ := mem_addL [c] ([], [])
  obtain ⟨m, hm⟩ : ∃ m, addL [c] ([], []) = m := ⟨_, rfl⟩
  rw [hm] at hl hs m1 m2 ⊢
  intro x hx
  unfold candN at hx
  rw [List.mem_append, List.mem_append, List.mem_map, List.mem_singleton] at hx
  rcases hx with (hx | ⟨s, hs', rfl⟩) | rfl
  · refine mnL_valid [c] hf x (((m1 x).1 hx).resolve_right (by simp))
  · exact fresh_valid (by omega) (hs s hs')
  · refine fresh_valid (by omega) ?_
    have h := (firstOf_spec (freeS m.2)).2
    have := (numB_size uB (firstOf (takenS m.2))).2
    rw [uB_size] at this
    show (numB uB (firstOf (takenS m.2))).size ≤ 200
    omega
/-- The witness is in the class; there is none exactly if it is empty. -/
theorem law_wit {c : Cls} (h : chkR c = 0) : ((witR c []).2 = 0 ∧ someF (fHow 0 c c) (men2 c c) = true ∧ validB (witR c []).1.1 (witR c []).1.2 = true ∧ inC c (witR c []).1.1 (witR c []).1.2 = true) ∨ ((witR c []).2 = 4 ∧ someF (fHow 0 c c) (men2 c c) = false) := by
  have hf : (fun x : Nm => inC c x.1 x.2 && !inNs [] x.1 x.2) = fHow 0 c c := by
    funext x; unfold fHow; rw [truth0, inNs]; simp
  have hw : witR c [] = witF (fHow 0 c c) (candN (addL [c] ([], [])) []) := by
    unfold witR witE; rw [if_pos h, hf]
  have hs : someF (fHow 0 c c) (men2 c c) = (candN (addL [c] ([], [])) []).any (fHow 0 c c) := by
    unfold someF men2; rw [addL_twice]
  have hv := cand_valid h
  rw [hw, hs]
  obtain ⟨L, hL⟩ : ∃ L, candN (addL [c] ([], [])) [] = L := ⟨_, rfl⟩
  rw [hL] at hv ⊢
  unfold witF
  cases hc : L.find? (fHow 0 c c) with
  | some x =>
    have h1 := List.find?_some hc
    have h2 := List.mem_of_find?_eq_some hc
    exact .inl ⟨rfl, List.any_eq_true.2 ⟨x, h2, h1⟩, hv x h2, h1⟩
  | none =>
    refine .inr ⟨rfl, ?_⟩
    rw [List.find?_eq_none] at hc
    rw [← Bool.not_eq_true, List.any_eq_true]
    rintro ⟨x, hx, h1⟩
    exact hc x hx h1
/-- A combination's normal class: there is one, and it has the names that it should have; or it is too long. -/
theorem law_comb (how : Int) (a b : Cls) : ((normF chkR (fHow how a b) (men2 a b)).2 = 0 ∧ chkR (normF chkR (fHow how a b) (men2 a b)).1 = 0 ∧ (∀ x y, inC (normF chkR (fHow how a b) (men2 a b)).1 x y = truthB how (inC a x y) (inC b x y)) ∧
    someF (fHow 0 (normF chkR (fHow how a b) (men2 a b)).1 (normF chkR (fHow how a b) (men2 a b)).1) (men2 (normF chkR (fHow how a b) (men2 a b)).1 (normF chkR (fHow how a b) (men2 a b)).1) = someF (fHow how a b) (men2 a b)) ∨ (normF chkR (fHow how a b) (men2 a b)).2 = 3 := by
  rcases normF_cases (fHow how a b) (men2 a b) with ⟨e, h1⟩ | e
  · rw [e]
    refine .inl ⟨rfl, h1, fun x y => nrm2 how a b (x, y), ?_⟩
    rw [Bool.eq_iff_iff, some2, some2]
    exact ⟨fun ⟨y, hy⟩ => ⟨y, by rw [truth0, nrm2] at hy; exact hy⟩, fun ⟨y, hy⟩ => ⟨y, by rw [truth0, nrm2]; exact hy⟩⟩
  · rw [e]; exact .inr rfl
end Go.Proofs.YtfildbkkmnfekaaGreatDoor
namespace Go.Proofs.YtfildbkkmnfekaaGreatDoor
open Go.RowKit

theorem comb_facts (how : Int) (c1 c2 : Cls) (a b : ByteArray) (h1 : chkR c1 = 0) (h2 : chkR c2 = 0) {R : Cls × Int} (hR : resF (orE (chkR c1) (chkR c2)) (normF chkR (fHow how c1 c2) (addL [c1, c2] ([], []))) = R) :
    (R.2 = 3 ∨ (R.2 = 0 ∧ chkR R.1 = 0 ∧ inC R.1 a b = truthB how (inC c1 a b) (inC c2 a b))) ∧ (R.2 = 0 → chkR R.1 = 0 ∧ someF (fHow 0 R.1 R.1) (addL [R.1, R.1] ([], [])) = someF (fHow how c1 c2) (addL [c1, c2] ([], []))) := by
  have h0 : resF (orE (chkR c1) (chkR c2)) (normF chkR (fHow how c1 c2) (addL [c1, c2] ([], []))) = normF chkR (fHow how c1 c2) (men2 c1 c2) := by
    unfold resF orE; rw [if_pos h1, if_pos h2]
  rw [h0] at hR
  subst hR
  rcases law_comb how c1 c2 with ⟨e1, e2, e3, e4⟩ | e
  · exact ⟨.inr ⟨e1, e2, e3 a b⟩, fun _ => ⟨e2, e4⟩⟩
  · exact ⟨.inl e, fun h => by rw [e] at h; cases h⟩
theorem ask_val (v : Bool) : askF 0 v = v := if_pos rfl
theorem hasN_ok {c : Cls} {a b : ByteArray} (h : chkR c = 0) (hv : validB a b = true) : hasRes (chkN c) (validB a b) (hasC c a b) = (inC c a b, 0) := by
  rw [hasRes_eq, h, hv]; rfl
theorem hasN_no {c : Cls} {a b : ByteArray} (h : chkR c = 0) (hv : validB a b = false) : hasRes (chkN c) (validB a b) (hasC c a b) = (false, 2) := by
  rw [hasRes_eq, h, hv]; rfl
set_option maxHeartbeats 1000000 in
set_option maxRecDepth 100000 in
theorem is73_any (c : Cls) (e : Int) (cs : List Value) (a b : ByteArray) (want : Bool) (w : World) (F : Nat → Prop) (hr : RepC w F c cs) (hh : e = 3 ∨ (e = 0 ∧ chkR c = 0 ∧ inC c a b = want)) (hv : validB a b = true) :
    Calls Tryz.prog 73 #[.agg cs.toArray, .int .i64 e, .agg #[.string a, .string b], .bool want] w fun e w' => e = .returned (.bool true) ∧ Below w.heap.size w w' := by
  have hr' := hr.here
  obtain ⟨k1, ns1, nl1, s1, A1, n1, c01, A1', n1', c01', rfl⟩ := hr.cells
  obtain ⟨w1, hw1, S1, S2, hsz1, hb1⟩ := alloc2_facts w (.cells #[.int .i64 k1, .string ns1, .string nl1, .string s1, .slice A1 n1 c01, .slice A1' n1' c01'] 28) (.cells #[.string a, .string b] 24)
  obtain ⟨p0, p1, p2, p3, p4, p5⟩ := blk6 S1
  obtain ⟨r0, r1⟩ := blk2 S2
  rcases hh with rfl | ⟨rfl, h1, h2⟩
  · have hd : ((3 : Int) != 0) = true := rfl
    have hd' : ((3 : Int) == 3) = true := rfl
    clear S1 S2 hr hr'
    go_enter Tryz.func73, Tryz.ntmps73
    go_wp2_with fail
    go_ret
    exact ⟨rfl, hb1⟩
  · have hd : ((0 : Int) != 0) = false := rfl
    have hd' : ((0 : Int) == 0) = true := rfl
    have hww : (want == want) = true := by cases want <;> rfl
    have H13 : Hid (Calls Tryz.prog 13 #[.agg #[.int .i64 k1, .string ns1, .string nl1, .string s1, .slice A1 n1 c01, .slice A1' n1' c01'], .agg #[.string a, .string b]] w1 fun e w' => e = .returned (.tuple #[.bool want, .int .i64 0]) ∧ Below w1.heap.size w1 w') := Lib.hid (by
      have h := Has_any a b c _ w1 _ (hr'.below hb1)
      rw [hasN_ok h1 hv, h2] at h
      exact h)
    clear S1 S2 hr hr' h1 h2 hv
    go_enter Tryz.func73, Tryz.ntmps73
    go_wp2_with fail
    refine H13.out.mono ?_
    rintro e w2 ⟨rfl, hb2⟩
    go_wp2_with fail
    go_ret
    exact ⟨rfl, hb1.seq hb2⟩
set_option maxHeartbeats 4000000 in
set_option maxRecDepth 100000 in
theorem pieces_any (c1 c2 : Cls) (cs1 cs2 : List Value) (a b : ByteArray) (one : Bool) (w : World) (F1 F2 : Nat → Prop) (hr1 : RepC w F1 c1 cs1) (hr2 : RepC w F2 c2 cs2) (hTw : Tab w) (h1 : chkR c1 = 0) (h2 : chkR c2 = 0)
    (hone : (!(someF (fHow 3 c2 c1) (addL [c2, c1] ([], [])))) = one) :
    Calls Tryz.prog 37 #[.agg cs1.toArray, .agg cs2.toArray, .agg #[.string a, .string b], .bool one] w fun e w' => e = .returned (.bool true) ∧ Below w.heap.size w w' := by
  have hr1' := hr1.here
  have hr2' := hr2.here
  obtain ⟨k1, ns1, nl1, s1, A1, n1, c01, A1', n1', c01', rfl⟩ := hr1.cells
  obtain ⟨k2, ns2, nl2, s2, A2, n2, c02, A2', n2', c02', rfl⟩ := hr2.cells
  obtain ⟨w1, hw1, S1, S2, S3, hsz1, hb1⟩ := alloc3_facts w (.cells #[.int .i64 k1, .string ns1, .string nl1, .string s1, .slice A1 n1 c01, .slice A1' n1' c01'] 28) (.cells #[.int .i64 k2, .string ns2, .string nl2, .string s2, .slice A2 n2 c02, .slice A2' n2' c02'] 28) (.cells #[.string a, .string b] 24)
  have HHp1 := Lib.hid S1; have HHq1 := Lib.hid S2; have HHr1 := Lib.hid S3; have HB1 := Lib.hid hb1
  have HT1 := Lib.hid (hTw.below HB1.out)
  have HR1 := Lib.hid hr1'; have HR2 := Lib.hid hr2'
  have hs1 : w.heap.size + 1 + 1 < w1.heap.size := hsz1
  have H1 := Lib.hid h1; have H2 := Lib.hid h2
  have HOR : Hid (orE (chkR c1) (chkR c2) = 0) := Lib.hid (by unfold orE; rw [if_pos h1]; exact h2)
  obtain ⟨RM, hRM⟩ : ∃ R, resF (orE (chkR c1) (chkR c2)) (normF chkR (fHow 2 c1 c2) (addL [c1, c2] ([], []))) = R := ⟨_, rfl⟩
  obtain ⟨RJ, hRJ⟩ : ∃ R, resF (orE (chkR c1) (chkR c2)) (normF chkR (fHow 1 c1 c2) (addL [c1, c2] ([], []))) = R := ⟨_, rfl⟩
  obtain ⟨RD, hRD⟩ : ∃ R, resF (orE (chkR c2) (chkR c1)) (normF chkR (fHow 3 c2 c1) (addL [c2, c1] ([], []))) = R := ⟨_, rfl⟩
  have FM := Lib.hid (comb_facts 2 c1 c2 a b h1 h2 hRM); have FJ := Lib.hid (comb_facts 1 c1 c2 a b h1 h2 hRJ); have FD := Lib.hid (comb_facts 3 c2 c1 a b h2 h1 hRD)
  have HM := Lib.hid hRM; have HJ := Lib.hid hRJ; have HD := Lib.hid hRD
  obtain ⟨sv, hsv⟩ : ∃ sv, someF (fHow 2 c1 c2) (addL [c1, c2] ([], [])) = sv := ⟨_, rfl⟩
  have HSV := Lib.hid hsv
  obtain ⟨nv, hnv⟩ : ∃ nv, (!sv) = nv := ⟨_, rfl⟩
  have HNV := Lib.hid hnv
  have HONE := Lib.hid hone
  have z0 : ((0 : Int) != 0) = false := rfl
  have z1 : ((0 : Int) == 0) = true := rfl
  have z3 : ((3 : Int) == 0) = false := rfl
  have z4 : (nv == sv) = false := by rw [← hnv]; cases sv <;> rfl
  have z5 : (one != one) = false := by cases one <;> rfl
  have z6 : ((2 : Int) != 0) = true := rfl
  have z7 : ((2 : Int) == 2) = true := rfl
  clear S1 S2 S3 hr1 hr2 hr1' hr2' h1 h2 hRM hRJ hRD hsv hnv hone
  obtain ⟨p0, p1, p2, p3, p4, p5⟩ := blk6 HHp1.out
  obtain ⟨q0, q1, q2, q3, q4, q5⟩ := blk6 HHq1.out
  obtain ⟨r0, r1⟩ := blk2 HHr1.out
  go_enter Tryz.func37, Tryz.ntmps37
  go_wp2_with fail
  have Q2 := Meet_any c1 c2 _ _ w1 _ _ (HR1.out.below (HB1.out.mono (Nat.le_refl _))) (HR2.out.below (HB1.out.mono (Nat.le_refl _))) HT1.out
  rw [HM.out] at Q2
  refine Q2.mono ?_
  rintro e w2 ⟨csM, rfl, hrM, hb2⟩
  clear Q2
  obtain ⟨kM, nsM, nlM, sM, AM, nM, c0M, AM', nM', c0M', rfl⟩ := hrM.cells
  clear p0 p1 p2 p3 p4 p5 q0 q1 q2 q3 q4 q5 r0 r1
  have HHp2 := Lib.hid (hp_below HHp1.out hb2)
  have HHq2 := Lib.hid (hp_below HHq1.out hb2)
  have HHr2 := Lib.hid (hp_below HHr1.out hb2)
  have HB2 := Lib.hid (HB1.out.seq hb2)
  have hs2 := hb2.size
  have HT2 := Lib.hid (hTw.below HB2.out)
  have HXM2 := Lib.hid hrM
  clear hrM
  obtain ⟨w3, hw3, S3, hsz3, hb3⟩ := alloc_facts w2 (.cells #[.int .i64 kM, .string nsM, .string nlM, .string sM, .slice AM nM c0M, .slice AM' nM' c0M'] 28)
  have HHp3 := Lib.hid (hp_below HHp2.out hb3)
  have HHq3 := Lib.hid (hp_below HHq2.out hb3)
  have HHr3 := Lib.hid (hp_below HHr2.out hb3)
  have HXM3 := Lib.hid (HXM2.out.keepF hb3)
  have HB3 := Lib.hid (HB2.out.seq hb3)
  have hs3 := hb3.size
  have HT3 := Lib.hid (hTw.below HB3.out)
  have HHM3 := Lib.hid S3
  clear S3
  obtain ⟨p0, p1, p2, p3, p4, p5⟩ := blk6 HHp3.out
  obtain ⟨q0, q1, q2, q3, q4, q5⟩ := blk6 HHq3.out
  obtain ⟨r0, r1⟩ := blk2 HHr3.out
  obtain ⟨M0, M1, M2, M3, M4, M5⟩ := blk6 HHM3.out
  go_wp2_with fail
  have Q4 := Overlap_any c1 c2 _ _ w3 _ _ (HR1.out.below (HB3.out.mono (Nat.le_refl _))) (HR2.out.below (HB3.out.mono (Nat.le_refl _))) HT3.out
  rw [HSV.out, HOR.out, ask_val] at Q4
  refine Q4.mono ?_
  rintro e w4 ⟨rfl, hb4⟩
  clear Q4
  clear p0 p1 p2 p3 p4 p5 q0 q1 q2 q3 q4 q5 r0 r1 M0 M1 M2 M3 M4 M5
  have HHp4 := Lib.hid (hp_below HHp3.out hb4)
  have HHq4 := Lib.hid (hp_below HHq3.out hb4)
  have HHr4 := Lib.hid (hp_below HHr3.out hb4)
  have HHM4 := Lib.hid (hp_below HHM3.out hb4)
  have HXM4 := Lib.hid (HXM3.out.keepF hb4)
  have HB4 := Lib.hid (HB3.out.seq hb4)
  have hs4 := hb4.size
  have HT4 := Lib.hid (hTw.below HB4.out)
  obtain ⟨p0, p1, p2, p3, p4, p5⟩ := blk6 HHp4.out
  obtain ⟨q0, q1, q2, q3, q4, q5⟩ := blk6 HHq4.out
  obtain ⟨r0, r1⟩ := blk2 HHr4.out
  obtain ⟨M0, M1, M2, M3, M4, M5⟩ := blk6 HHM4.out
  obtain ⟨cM, eM⟩ := RM
  simp only at HM FM HXM4 ⊢
  go_upto_if 38 with fail
  go_cut [] (fun wc => Below w4.heap.size w4 wc)
  case first =>
    rcases FM.out.1 with he | ⟨he, -⟩
    · subst he
      go_wp2_with fail
      go_meet
      case rel => exact Below.refl _ _
    · subst he
      go_wp2_with fail
      have QE := Empty_any cM _ w4 _ HXM4.out HT4.out
      rw [(FM.out.2 (by trivial)).1, (FM.out.2 (by trivial)).2, HSV.out, HNV.out, ask_val] at QE
      refine QE.mono ?_
      rintro e wE ⟨rfl, hbE⟩
      clear QE
      go_wp2_with fail
      go_meet
      case rel => exact hbE
  case rest =>
  clear p0 p1 p2 p3 p4 p5 q0 q1 q2 q3 q4 q5 r0 r1 M0 M1 M2 M3 M4 M5
  rename World => w5
  have hb5 := hcut
  have HHp5 := Lib.hid (hp_below HHp4.out hb5)
  have HHq5 := Lib.hid (hp_below HHq4.out hb5)
  have HHr5 := Lib.hid (hp_below HHr4.out hb5)
  have HHM5 := Lib.hid (hp_below HHM4.out hb5)
  have HXM5 := Lib.hid (HXM4.out.keepF hb5)
  have HB5 := Lib.hid (HB4.out.seq hb5)
  have hs5 := hb5.size
  have HT5 := Lib.hid (hTw.below HB5.out)
  obtain ⟨p0, p1, p2, p3, p4, p5⟩ := blk6 HHp5.out
  obtain ⟨q0, q1, q2, q3, q4, q5⟩ := blk6 HHq5.out
  obtain ⟨r0, r1⟩ := blk2 HHr5.out
  obtain ⟨M0, M1, M2, M3, M4, M5⟩ := blk6 HHM5.out
  go_wp2_with fail
  have Q6 := Minus_any c2 c1 _ _ w5 _ _ (HR2.out.below (HB5.out.mono (Nat.le_refl _))) (HR1.out.below (HB5.out.mono (Nat.le_refl _))) HT5.out
  rw [HD.out] at Q6
  refine Q6.mono ?_
  rintro e w6 ⟨csD, rfl, hrD, hb6⟩
  clear Q6
  obtain ⟨kD, nsD, nlD, sD, AD, nD, c0D, AD', nD', c0D', rfl⟩ := hrD.cells
  clear p0 p1 p2 p3 p4 p5 q0 q1 q2 q3 q4 q5 r0 r1 M0 M1 M2 M3 M4 M5
  have HHp6 := Lib.hid (hp_below HHp5.out hb6)
  have HHq6 := Lib.hid (hp_below HHq5.out hb6)
  have HHr6 := Lib.hid (hp_below HHr5.out hb6)
  have HHM6 := Lib.hid (hp_below HHM5.out hb6)
  have HXM6 := Lib.hid (HXM5.out.keepF hb6)
  have HB6 := Lib.hid (HB5.out.seq hb6)
  have hs6 := hb6.size
  have HT6 := Lib.hid (hTw.below HB6.out)
  have HXD6 := Lib.hid hrD
  clear hrD
  obtain ⟨w7, hw7, S7, hsz7, hb7⟩ := alloc_facts w6 (.cells #[.int .i64 kD, .string nsD, .string nlD, .string sD, .slice AD nD c0D, .slice AD' nD' c0D'] 28)
  have HHp7 := Lib.hid (hp_below HHp6.out hb7)
  have HHq7 := Lib.hid (hp_below HHq6.out hb7)
  have HHr7 := Lib.hid (hp_below HHr6.out hb7)
  have HHM7 := Lib.hid (hp_below HHM6.out hb7)
  have HXM7 := Lib.hid (HXM6.out.keepF hb7)
  have HXD7 := Lib.hid (HXD6.out.keepF hb7)
  have HB7 := Lib.hid (HB6.out.seq hb7)
  have hs7 := hb7.size
  have HT7 := Lib.hid (hTw.below HB7.out)
  have HHD7 := Lib.hid S7
  clear S7
  obtain ⟨p0, p1, p2, p3, p4, p5⟩ := blk6 HHp7.out
  obtain ⟨q0, q1, q2, q3, q4, q5⟩ := blk6 HHq7.out
  obtain ⟨r0, r1⟩ := blk2 HHr7.out
  obtain ⟨M0, M1, M2, M3, M4, M5⟩ := blk6 HHM7.out
  obtain ⟨D0, D1, D2, D3, D4, D5⟩ := blk6 HHD7.out
  obtain ⟨cD, eD⟩ := RD
  simp only at HD FD HXD7 ⊢
  go_upto_if 62 with fail
  go_cut [] (fun wc => Below w7.heap.size w7 wc)
  case first =>
    rcases FD.out.1 with he | ⟨he, -⟩
    · subst he
      go_wp2_with fail
      go_meet
      case rel => exact Below.refl _ _
    · subst he
      go_wp2_with fail
      have QE := Empty_any cD _ w7 _ HXD7.out HT7.out
      rw [(FD.out.2 (by trivial)).1, (FD.out.2 (by trivial)).2, HONE.out, ask_val] at QE
      refine QE.mono ?_
      rintro e wE ⟨rfl, hbE⟩
      clear QE
      go_wp2_with fail
      go_meet
      case rel => exact hbE
  case rest =>
  clear p0 p1 p2 p3 p4 p5 q0 q1 q2 q3 q4 q5 r0 r1 M0 M1 M2 M3 M4 M5 D0 D1 D2 D3 D4 D5
  rename World => w8
  have hb8 := hcut
  have HHp8 := Lib.hid (hp_below HHp7.out hb8)
  have HHq8 := Lib.hid (hp_below HHq7.out hb8)
  have HHr8 := Lib.hid (hp_below HHr7.out hb8)
  have HHM8 := Lib.hid (hp_below HHM7.out hb8)
  have HHD8 := Lib.hid (hp_below HHD7.out hb8)
  have HXM8 := Lib.hid (HXM7.out.keepF hb8)
  have HXD8 := Lib.hid (HXD7.out.keepF hb8)
  have HB8 := Lib.hid (HB7.out.seq hb8)
  have hs8 := hb8.size
  have HT8 := Lib.hid (hTw.below HB8.out)
  obtain ⟨p0, p1, p2, p3, p4, p5⟩ := blk6 HHp8.out
  obtain ⟨q0, q1, q2, q3, q4, q5⟩ := blk6 HHq8.out
  obtain ⟨r0, r1⟩ := blk2 HHr8.out
  obtain ⟨M0, M1, M2, M3, M4, M5⟩ := blk6 HHM8.out
  obtain ⟨D0, D1, D2, D3, D4, D5⟩ := blk6 HHD8.out
  go_wp2_with fail
  have Q9 := Join_any c1 c2 _ _ w8 _ _ (HR1.out.below (HB8.out.mono (Nat.le_refl _))) (HR2.out.below (HB8.out.mono (Nat.le_refl _))) HT8.out
  rw [HJ.out] at Q9
  refine Q9.mono ?_
  rintro e w9 ⟨csJ, rfl, hrJ, hb9⟩
  clear Q9
  obtain ⟨kJ, nsJ, nlJ, sJ, AJ, nJ, c0J, AJ', nJ', c0J', rfl⟩ := hrJ.cells
  clear p0 p1 p2 p3 p4 p5 q0 q1 q2 q3 q4 q5 r0 r1 M0 M1 M2 M3 M4 M5 D0 D1 D2 D3 D4 D5
  have HHp9 := Lib.hid (hp_below HHp8.out hb9)
  have HHq9 := Lib.hid (hp_below HHq8.out hb9)
  have HHr9 := Lib.hid (hp_below HHr8.out hb9)
  have HHM9 := Lib.hid (hp_below HHM8.out hb9)
  have HHD9 := Lib.hid (hp_below HHD8.out hb9)
  have HXM9 := Lib.hid (HXM8.out.keepF hb9)
  have HXD9 := Lib.hid (HXD8.out.keepF hb9)
  have HB9 := Lib.hid (HB8.out.seq hb9)
  have hs9 := hb9.size
  have HT9 := Lib.hid (hTw.below HB9.out)
  have HXJ9 := Lib.hid hrJ
  clear hrJ
  obtain ⟨w10, hw10, S10, hsz10, hb10⟩ := alloc_facts w9 (.cells #[.int .i64 kJ, .string nsJ, .string nlJ, .string sJ, .slice AJ nJ c0J, .slice AJ' nJ' c0J'] 28)
  have HHp10 := Lib.hid (hp_below HHp9.out hb10)
  have HHq10 := Lib.hid (hp_below HHq9.out hb10)
  have HHr10 := Lib.hid (hp_below HHr9.out hb10)
  have HHM10 := Lib.hid (hp_below HHM9.out hb10)
  have HHD10 := Lib.hid (hp_below HHD9.out hb10)
  have HXM10 := Lib.hid (HXM9.out.keepF hb10)
  have HXD10 := Lib.hid (HXD9.out.keepF hb10)
  have HXJ10 := Lib.hid (HXJ9.out.keepF hb10)
  have HB10 := Lib.hid (HB9.out.seq hb10)
  have hs10 := hb10.size
  have HT10 := Lib.hid (hTw.below HB10.out)
  have HHJ10 := Lib.hid S10
  clear S10
  obtain ⟨p0, p1, p2, p3, p4, p5⟩ := blk6 HHp10.out
  obtain ⟨q0, q1, q2, q3, q4, q5⟩ := blk6 HHq10.out
  obtain ⟨r0, r1⟩ := blk2 HHr10.out
  obtain ⟨M0, M1, M2, M3, M4, M5⟩ := blk6 HHM10.out
  obtain ⟨D0, D1, D2, D3, D4, D5⟩ := blk6 HHD10.out
  obtain ⟨J0, J1, J2, J3, J4, J5⟩ := blk6 HHJ10.out
  obtain ⟨cJ, eJ⟩ := RJ
  simp only at HJ FJ HXJ10 ⊢
  cases hv : validB a b
  · have HV := Lib.hid hv; clear hv
    go_wp2_with fail
    have Q11 := Has_any a b c1 _ w10 _ (HR1.out.below (HB10.out.mono (Nat.le_refl _)))
    rw [hasN_no H1.out HV.out] at Q11
    refine Q11.mono ?_
    rintro e w11 ⟨rfl, hb11⟩
    clear Q11
    clear p0 p1 p2 p3 p4 p5 q0 q1 q2 q3 q4 q5 r0 r1 M0 M1 M2 M3 M4 M5 D0 D1 D2 D3 D4 D5 J0 J1 J2 J3 J4 J5
    have HHp11 := Lib.hid (hp_below HHp10.out hb11)
    have HHq11 := Lib.hid (hp_below HHq10.out hb11)
    have HHr11 := Lib.hid (hp_below HHr10.out hb11)
    have HHM11 := Lib.hid (hp_below HHM10.out hb11)
    have HHD11 := Lib.hid (hp_below HHD10.out hb11)
    have HHJ11 := Lib.hid (hp_below HHJ10.out hb11)
    have HXM11 := Lib.hid (HXM10.out.keepF hb11)
    have HXD11 := Lib.hid (HXD10.out.keepF hb11)
    have HXJ11 := Lib.hid (HXJ10.out.keepF hb11)
    have HB11 := Lib.hid (HB10.out.seq hb11)
    have hs11 := hb11.size
    have HT11 := Lib.hid (hTw.below HB11.out)
    obtain ⟨p0, p1, p2, p3, p4, p5⟩ := blk6 HHp11.out
    obtain ⟨q0, q1, q2, q3, q4, q5⟩ := blk6 HHq11.out
    obtain ⟨r0, r1⟩ := blk2 HHr11.out
    obtain ⟨M0, M1, M2, M3, M4, M5⟩ := blk6 HHM11.out
    obtain ⟨D0, D1, D2, D3, D4, D5⟩ := blk6 HHD11.out
    obtain ⟨J0, J1, J2, J3, J4, J5⟩ := blk6 HHJ11.out
    go_wp2_with fail
    have Q12 := Has_any a b c2 _ w11 _ (HR2.out.below (HB11.out.mono (Nat.le_refl _)))
    rw [hasN_no H2.out HV.out] at Q12
    refine Q12.mono ?_
    rintro e w12 ⟨rfl, hb12⟩
    clear Q12
    clear p0 p1 p2 p3 p4 p5 q0 q1 q2 q3 q4 q5 r0 r1 M0 M1 M2 M3 M4 M5 D0 D1 D2 D3 D4 D5 J0 J1 J2 J3 J4 J5
    have HHp12 := Lib.hid (hp_below HHp11.out hb12)
    have HHq12 := Lib.hid (hp_below HHq11.out hb12)
    have HHr12 := Lib.hid (hp_below HHr11.out hb12)
    have HHM12 := Lib.hid (hp_below HHM11.out hb12)
    have HHD12 := Lib.hid (hp_below HHD11.out hb12)
    have HHJ12 := Lib.hid (hp_below HHJ11.out hb12)
    have HXM12 := Lib.hid (HXM11.out.keepF hb12)
    have HXD12 := Lib.hid (HXD11.out.keepF hb12)
    have HXJ12 := Lib.hid (HXJ11.out.keepF hb12)
    have HB12 := Lib.hid (HB11.out.seq hb12)
    have hs12 := hb12.size
    have HT12 := Lib.hid (hTw.below HB12.out)
    obtain ⟨p0, p1, p2, p3, p4, p5⟩ := blk6 HHp12.out
    obtain ⟨q0, q1, q2, q3, q4, q5⟩ := blk6 HHq12.out
    obtain ⟨r0, r1⟩ := blk2 HHr12.out
    obtain ⟨M0, M1, M2, M3, M4, M5⟩ := blk6 HHM12.out
    obtain ⟨D0, D1, D2, D3, D4, D5⟩ := blk6 HHD12.out
    obtain ⟨J0, J1, J2, J3, J4, J5⟩ := blk6 HHJ12.out
    go_wp2_with fail
    go_ret
    exact ⟨rfl, HB12.out⟩
  · have HV := Lib.hid hv; clear hv
    obtain ⟨xb, hxb⟩ : ∃ v, inC c1 a b = v := ⟨_, rfl⟩
    have HIx := Lib.hid hxb; clear hxb
    obtain ⟨yb, hyb⟩ : ∃ v, inC c2 a b = v := ⟨_, rfl⟩
    have HIy := Lib.hid hyb; clear hyb
    have GM : Hid (eM = 3 ∨ (eM = 0 ∧ chkR cM = 0 ∧ inC cM a b = truthB 2 xb yb)) := Lib.hid (by have h := FM.out.1; rw [HIx.out, HIy.out] at h; exact h)
    have GD : Hid (eD = 3 ∨ (eD = 0 ∧ chkR cD = 0 ∧ inC cD a b = truthB 3 yb xb)) := Lib.hid (by have h := FD.out.1; rw [HIx.out, HIy.out] at h; exact h)
    have GJ : Hid (eJ = 3 ∨ (eJ = 0 ∧ chkR cJ = 0 ∧ inC cJ a b = truthB 1 xb yb)) := Lib.hid (by have h := FJ.out.1; rw [HIx.out, HIy.out] at h; exact h)
    go_wp2_with fail
    have Q11 := Has_any a b c1 _ w10 _ (HR1.out.below (HB10.out.mono (Nat.le_refl _)))
    rw [hasN_ok H1.out HV.out, HIx.out] at Q11
    refine Q11.mono ?_
    rintro e w11 ⟨rfl, hb11⟩
    clear Q11
    clear p0 p1 p2 p3 p4 p5 q0 q1 q2 q3 q4 q5 r0 r1 M0 M1 M2 M3 M4 M5 D0 D1 D2 D3 D4 D5 J0 J1 J2 J3 J4 J5
    have HHp11 := Lib.hid (hp_below HHp10.out hb11)
    have HHq11 := Lib.hid (hp_below HHq10.out hb11)
    have HHr11 := Lib.hid (hp_below HHr10.out hb11)
    have HHM11 := Lib.hid (hp_below HHM10.out hb11)
    have HHD11 := Lib.hid (hp_below HHD10.out hb11)
    have HHJ11 := Lib.hid (hp_below HHJ10.out hb11)
    have HXM11 := Lib.hid (HXM10.out.keepF hb11)
    have HXD11 := Lib.hid (HXD10.out.keepF hb11)
    have HXJ11 := Lib.hid (HXJ10.out.keepF hb11)
    have HB11 := Lib.hid (HB10.out.seq hb11)
    have hs11 := hb11.size
    have HT11 := Lib.hid (hTw.below HB11.out)
    obtain ⟨p0, p1, p2, p3, p4, p5⟩ := blk6 HHp11.out
    obtain ⟨q0, q1, q2, q3, q4, q5⟩ := blk6 HHq11.out
    obtain ⟨r0, r1⟩ := blk2 HHr11.out
    obtain ⟨M0, M1, M2, M3, M4, M5⟩ := blk6 HHM11.out
    obtain ⟨D0, D1, D2, D3, D4, D5⟩ := blk6 HHD11.out
    obtain ⟨J0, J1, J2, J3, J4, J5⟩ := blk6 HHJ11.out
    go_wp2_with fail
    have Q12 := Has_any a b c2 _ w11 _ (HR2.out.below (HB11.out.mono (Nat.le_refl _)))
    rw [hasN_ok H2.out HV.out, HIy.out] at Q12
    refine Q12.mono ?_
    rintro e w12 ⟨rfl, hb12⟩
    clear Q12
    clear p0 p1 p2 p3 p4 p5 q0 q1 q2 q3 q4 q5 r0 r1 M0 M1 M2 M3 M4 M5 D0 D1 D2 D3 D4 D5 J0 J1 J2 J3 J4 J5
    have HHp12 := Lib.hid (hp_below HHp11.out hb12)
    have HHq12 := Lib.hid (hp_below HHq11.out hb12)
    have HHr12 := Lib.hid (hp_below HHr11.out hb12)
    have HHM12 := Lib.hid (hp_below HHM11.out hb12)
    have HHD12 := Lib.hid (hp_below HHD11.out hb12)
    have HHJ12 := Lib.hid (hp_below HHJ11.out hb12)
    have HXM12 := Lib.hid (HXM11.out.keepF hb12)
    have HXD12 := Lib.hid (HXD11.out.keepF hb12)
    have HXJ12 := Lib.hid (HXJ11.out.keepF hb12)
    have HB12 := Lib.hid (HB11.out.seq hb12)
    have hs12 := hb12.size
    have HT12 := Lib.hid (hTw.below HB12.out)
    obtain ⟨p0, p1, p2, p3, p4, p5⟩ := blk6 HHp12.out
    obtain ⟨q0, q1, q2, q3, q4, q5⟩ := blk6 HHq12.out
    obtain ⟨r0, r1⟩ := blk2 HHr12.out
    obtain ⟨M0, M1, M2, M3, M4, M5⟩ := blk6 HHM12.out
    obtain ⟨D0, D1, D2, D3, D4, D5⟩ := blk6 HHD12.out
    obtain ⟨J0, J1, J2, J3, J4, J5⟩ := blk6 HHJ12.out
    clear FM FD FJ HM HD HJ HIx HIy
    cases xb <;> cases yb
    all_goals
      go_wp2_with fail
      refine (is73_any cM eM _ a b _ w12 _ HXM12.out GM.out HV.out).mono ?_
      rintro e w13 ⟨rfl, hb13⟩
      clear p0 p1 p2 p3 p4 p5 q0 q1 q2 q3 q4 q5 r0 r1 M0 M1 M2 M3 M4 M5 D0 D1 D2 D3 D4 D5 J0 J1 J2 J3 J4 J5
      have HHp13 := Lib.hid (hp_below HHp12.out hb13)
      have HHq13 := Lib.hid (hp_below HHq12.out hb13)
      have HHr13 := Lib.hid (hp_below HHr12.out hb13)
      have HHM13 := Lib.hid (hp_below HHM12.out hb13)
      have HHD13 := Lib.hid (hp_below HHD12.out hb13)
      have HHJ13 := Lib.hid (hp_below HHJ12.out hb13)
      have HXM13 := Lib.hid (HXM12.out.keepF hb13)
      have HXD13 := Lib.hid (HXD12.out.keepF hb13)
      have HXJ13 := Lib.hid (HXJ12.out.keepF hb13)
      have HB13 := Lib.hid (HB12.out.seq hb13)
      have hs13 := hb13.size
      have HT13 := Lib.hid (hTw.below HB13.out)
      obtain ⟨p0, p1, p2, p3, p4, p5⟩ := blk6 HHp13.out
      obtain ⟨q0, q1, q2, q3, q4, q5⟩ := blk6 HHq13.out
      obtain ⟨r0, r1⟩ := blk2 HHr13.out
      obtain ⟨M0, M1, M2, M3, M4, M5⟩ := blk6 HHM13.out
      obtain ⟨D0, D1, D2, D3, D4, D5⟩ := blk6 HHD13.out
      obtain ⟨J0, J1, J2, J3, J4, J5⟩ := blk6 HHJ13.out
      go_wp2_with fail
      refine (is73_any cD eD _ a b _ w13 _ HXD13.out GD.out HV.out).mono ?_
      rintro e w14 ⟨rfl, hb14⟩
      clear p0 p1 p2 p3 p4 p5 q0 q1 q2 q3 q4 q5 r0 r1 M0 M1 M2 M3 M4 M5 D0 D1 D2 D3 D4 D5 J0 J1 J2 J3 J4 J5
      have HHp14 := Lib.hid (hp_below HHp13.out hb14)
      have HHq14 := Lib.hid (hp_below HHq13.out hb14)
      have HHr14 := Lib.hid (hp_below HHr13.out hb14)
      have HHM14 := Lib.hid (hp_below HHM13.out hb14)
      have HHD14 := Lib.hid (hp_below HHD13.out hb14)
      have HHJ14 := Lib.hid (hp_below HHJ13.out hb14)
      have HXM14 := Lib.hid (HXM13.out.keepF hb14)
      have HXD14 := Lib.hid (HXD13.out.keepF hb14)
      have HXJ14 := Lib.hid (HXJ13.out.keepF hb14)
      have HB14 := Lib.hid (HB13.out.seq hb14)
      have hs14 := hb14.size
      have HT14 := Lib.hid (hTw.below HB14.out)
      obtain ⟨p0, p1, p2, p3, p4, p5⟩ := blk6 HHp14.out
      obtain ⟨q0, q1, q2, q3, q4, q5⟩ := blk6 HHq14.out
      obtain ⟨r0, r1⟩ := blk2 HHr14.out
      obtain ⟨M0, M1, M2, M3, M4, M5⟩ := blk6 HHM14.out
      obtain ⟨D0, D1, D2, D3, D4, D5⟩ := blk6 HHD14.out
      obtain ⟨J0, J1, J2, J3, J4, J5⟩ := blk6 HHJ14.out
      go_wp2_with fail
      refine (is73_any cJ eJ _ a b _ w14 _ HXJ14.out GJ.out HV.out).mono ?_
      rintro e w15 ⟨rfl, hb15⟩
      clear p0 p1 p2 p3 p4 p5 q0 q1 q2 q3 q4 q5 r0 r1 M0 M1 M2 M3 M4 M5 D0 D1 D2 D3 D4 D5 J0 J1 J2 J3 J4 J5
      have HHp15 := Lib.hid (hp_below HHp14.out hb15)
      have HHq15 := Lib.hid (hp_below HHq14.out hb15)
      have HHr15 := Lib.hid (hp_below HHr14.out hb15)
      have HHM15 := Lib.hid (hp_below HHM14.out hb15)
      have HHD15 := Lib.hid (hp_below HHD14.out hb15)
      have HHJ15 := Lib.hid (hp_below HHJ14.out hb15)
      have HXM15 := Lib.hid (HXM14.out.keepF hb15)
      have HXD15 := Lib.hid (HXD14.out.keepF hb15)
      have HXJ15 := Lib.hid (HXJ14.out.keepF hb15)
      have HB15 := Lib.hid (HB14.out.seq hb15)
      have hs15 := hb15.size
      have HT15 := Lib.hid (hTw.below HB15.out)
      obtain ⟨p0, p1, p2, p3, p4, p5⟩ := blk6 HHp15.out
      obtain ⟨q0, q1, q2, q3, q4, q5⟩ := blk6 HHq15.out
      obtain ⟨r0, r1⟩ := blk2 HHr15.out
      obtain ⟨M0, M1, M2, M3, M4, M5⟩ := blk6 HHM15.out
      obtain ⟨D0, D1, D2, D3, D4, D5⟩ := blk6 HHD15.out
      obtain ⟨J0, J1, J2, J3, J4, J5⟩ := blk6 HHJ15.out
      go_wp2_with fail
      go_ret
      exact ⟨rfl, HB15.out⟩
end Go.Proofs.YtfildbkkmnfekaaGreatDoor
namespace Go.Proofs.YtfildbkkmnfekaaGreatDoor
open Go.RowKit

theorem norm_facts {c1 : Cls} (h1 : chkR c1 = 0) {R : Cls × Int} (hR : resF (chkR c1) (normF chkR (fHow 0 c1 c1) (addL [c1, c1] ([], []))) = R) : R = nrmR c1 ∧ (R.2 = 3 ∨ R.2 = 0) := by
  have h0 : resF (chkR c1) (normF chkR (fHow 0 c1 c1) (addL [c1, c1] ([], []))) = nrmR c1 := by unfold resF; rw [if_pos h1]
  rw [h0] at hR
  subst hR
  refine ⟨rfl, ?_⟩
  rcases normF_cases (fHow 0 c1 c1) (men2 c1 c1) with ⟨e, -⟩ | e
  · unfold nrmR; rw [e]; exact .inr rfl
  · unfold nrmR; rw [e]; exact .inl rfl
/-- What Includes says of a normal class and its class; what Normal says of it. -/
theorem back_facts {c1 cX : Cls} {eX : Int} (hX : (cX, eX) = nrmR c1) (he : eX = 0) : chkR cX = 0 ∧ (!(someF (fHow 3 c1 cX) (addL [c1, cX] ([], [])))) = true ∧ (!(someF (fHow 3 cX c1) (addL [cX, c1] ([], [])))) = true ∧ resF (chkR cX) (normF chkR (fHow 0 cX cX) (addL [cX, cX] ([], []))) = (cX, 0) ∧ sameC 40 cX cX = true := by
  have h2 : (nrmR c1).2 = 0 := by rw [← hX]; exact he
  obtain ⟨-, k, -⟩ := nrmR_ok h2
  obtain ⟨b1, b2⟩ := law_back h2
  have b3 := law_again h2
  rw [← hX] at b1 b2 b3 k
  refine ⟨k, b1, b2, ?_, sameC_refl 40 cX (Nat.le_trans (chkR_dp k) (by omega))⟩
  unfold resF
  rw [if_pos k]; exact b3
theorem same_facts {c1 c2 cX cY : Cls} {eX eY : Int} (hX : (cX, eX) = nrmR c1) (hY : (cY, eY) = nrmR c2) (h1 : eX = 0) (h2 : eY = 0) : sameC 40 cX cY = ((!(someF (fHow 3 c2 c1) (addL [c2, c1] ([], [])))) && (!(someF (fHow 3 c1 c2) (addL [c1, c2] ([], []))))) := by
  have h := law_same (a := c1) (b := c2) (by rw [← hX]; exact h1) (by rw [← hY]; exact h2) (d := 40) (by omega)
  rw [← hX, ← hY] at h
  exact h
/-- The witness, as the law asks of it. -/
theorem wit_facts {c1 : Cls} (h1 : chkR c1 = 0) {wa wb : ByteArray} {we : Int} (hw : witR c1 [] = ((wa, wb), we)) {s0 : Bool} (hs : someF (fHow 0 c1 c1) (addL [c1, c1] ([], [])) = s0) :
    (we = 0 ∧ s0 = true ∧ hasRes (chkN c1) (validB wa wb) (hasC c1 wa wb) = (true, 0)) ∨ (we = 4 ∧ s0 = false) := by
  rcases law_wit h1 with ⟨a, b, c, d⟩ | ⟨a, b⟩
  · rw [hw] at a c d
    exact .inl ⟨a, hs.symm.trans b, by rw [hasN_ok h1 c, d]⟩
  · rw [hw] at a
    exact .inr ⟨a, hs.symm.trans b⟩
set_option maxHeartbeats 4000000 in
set_option maxRecDepth 100000 in
theorem NamesLaws_any (c1 c2 : Cls) (cs1 cs2 : List Value) (a b : ByteArray) (w : World) (F1 F2 : Nat → Prop) (hr1 : RepC w F1 c1 cs1) (hr2 : RepC w F2 c2 cs2) (hTw : Tab w) :
    Calls Tryz.prog 6 #[.agg cs1.toArray, .agg cs2.toArray, .agg #[.string a, .string b]] w fun e w' => e = .returned (.bool true) ∧ Below w.heap.size w w' := by
  have hr1' := hr1.here
  have hr2' := hr2.here
  obtain ⟨k1, ns1, nl1, s1, A1, n1, c01, A1', n1', c01', rfl⟩ := hr1.cells
  obtain ⟨k2, ns2, nl2, s2, A2, n2, c02, A2', n2', c02', rfl⟩ := hr2.cells
  obtain ⟨w1, hw1, S1, S2, S3, hsz1, hb1⟩ := alloc3_facts w (.cells #[.int .i64 k1, .string ns1, .string nl1, .string s1, .slice A1 n1 c01, .slice A1' n1' c01'] 28) (.cells #[.int .i64 k2, .string ns2, .string nl2, .string s2, .slice A2 n2 c02, .slice A2' n2' c02'] 28) (.cells #[.string a, .string b] 24)
  have HHp1 := Lib.hid S1; have HHq1 := Lib.hid S2; have HHr1 := Lib.hid S3; have HB1 := Lib.hid hb1
  have HT1 := Lib.hid (hTw.below HB1.out)
  have HR1 := Lib.hid hr1'; have HR2 := Lib.hid hr2'
  have hs1 : w.heap.size + 1 + 1 < w1.heap.size := hsz1
  clear S1 S2 S3 hr1 hr2 hr1' hr2'
  obtain ⟨ga, hga⟩ : ∃ g, decide (400 < sizeC 40 c1) = g := ⟨_, rfl⟩
  obtain ⟨gb, hgb⟩ : ∃ g, decide (400 < sizeC 40 c2) = g := ⟨_, rfl⟩
  have HGA := Lib.hid hga; have HGB := Lib.hid hgb
  obtain ⟨e1, he1⟩ : ∃ e, chkR c1 = e := ⟨_, rfl⟩
  obtain ⟨e2, he2⟩ : ∃ e, chkR c2 = e := ⟨_, rfl⟩
  have HE1 := Lib.hid he1; have HE2 := Lib.hid he2
  have HEN1 : Hid (chkN c1 = e1) := Lib.hid (by rw [chk_eq]; exact he1)
  have HEN2 : Hid (chkN c2 = e2) := Lib.hid (by rw [chk_eq]; exact he2)
  clear hga hgb he1 he2
  cases ga
  rotate_left 1
  · clear HR2 HGB
    obtain ⟨p0, p1, p2, p3, p4, p5⟩ := blk6 HHp1.out
    obtain ⟨q0, q1, q2, q3, q4, q5⟩ := blk6 HHq1.out
    obtain ⟨r0, r1⟩ := blk2 HHr1.out
    go_enter Tryz.func6, Tryz.ntmps6
    go_wp2_with fail
    have Q2 := great_any c1 _ w1 _ (HR1.out.below (HB1.out.mono (Nat.le_refl _))) HGA.out
    refine Q2.mono ?_
    rintro e w2 ⟨rfl, hb2⟩
    clear Q2
    clear p0 p1 p2 p3 p4 p5 q0 q1 q2 q3 q4 q5 r0 r1
    have HHp2 := Lib.hid (hp_below HHp1.out hb2)
    have HHq2 := Lib.hid (hp_below HHq1.out hb2)
    have HHr2 := Lib.hid (hp_below HHr1.out hb2)
    have HB2 := Lib.hid (HB1.out.seq hb2)
    have hs2 := hb2.size
    have HT2 := Lib.hid (hTw.below HB2.out)
    obtain ⟨p0, p1, p2, p3, p4, p5⟩ := blk6 HHp2.out
    obtain ⟨q0, q1, q2, q3, q4, q5⟩ := blk6 HHq2.out
    obtain ⟨r0, r1⟩ := blk2 HHr2.out
    go_wp2_with fail
    have Q3 := shown_any w2 HT2.out
    refine Q3.mono ?_
    rintro e w3 ⟨rfl, hb3⟩
    clear Q3
    clear p0 p1 p2 p3 p4 p5 q0 q1 q2 q3 q4 q5 r0 r1
    have HHp3 := Lib.hid (hp_below HHp2.out hb3)
    have HHq3 := Lib.hid (hp_below HHq2.out hb3)
    have HHr3 := Lib.hid (hp_below HHr2.out hb3)
    have HB3 := Lib.hid (HB2.out.seq hb3)
    have hs3 := hb3.size
    have HT3 := Lib.hid (hTw.below HB3.out)
    obtain ⟨p0, p1, p2, p3, p4, p5⟩ := blk6 HHp3.out
    obtain ⟨q0, q1, q2, q3, q4, q5⟩ := blk6 HHq3.out
    obtain ⟨r0, r1⟩ := blk2 HHr3.out
    go_wp2_with fail
    go_ret
    exact ⟨rfl, HB3.out⟩
  cases gb
  rotate_left 1
  ·
    obtain ⟨p0, p1, p2, p3, p4, p5⟩ := blk6 HHp1.out
    obtain ⟨q0, q1, q2, q3, q4, q5⟩ := blk6 HHq1.out
    obtain ⟨r0, r1⟩ := blk2 HHr1.out
    go_enter Tryz.func6, Tryz.ntmps6
    go_wp2_with fail
    have Q2 := great_any c1 _ w1 _ (HR1.out.below (HB1.out.mono (Nat.le_refl _))) HGA.out
    refine Q2.mono ?_
    rintro e w2 ⟨rfl, hb2⟩
    clear Q2
    clear p0 p1 p2 p3 p4 p5 q0 q1 q2 q3 q4 q5 r0 r1
    have HHp2 := Lib.hid (hp_below HHp1.out hb2)
    have HHq2 := Lib.hid (hp_below HHq1.out hb2)
    have HHr2 := Lib.hid (hp_below HHr1.out hb2)
    have HB2 := Lib.hid (HB1.out.seq hb2)
    have hs2 := hb2.size
    have HT2 := Lib.hid (hTw.below HB2.out)
    obtain ⟨p0, p1, p2, p3, p4, p5⟩ := blk6 HHp2.out
    obtain ⟨q0, q1, q2, q3, q4, q5⟩ := blk6 HHq2.out
    obtain ⟨r0, r1⟩ := blk2 HHr2.out
    go_wp2_with fail
    have Q3 := great_any c2 _ w2 _ (HR2.out.below (HB2.out.mono (Nat.le_refl _))) HGB.out
    refine Q3.mono ?_
    rintro e w3 ⟨rfl, hb3⟩
    clear Q3
    clear p0 p1 p2 p3 p4 p5 q0 q1 q2 q3 q4 q5 r0 r1
    have HHp3 := Lib.hid (hp_below HHp2.out hb3)
    have HHq3 := Lib.hid (hp_below HHq2.out hb3)
    have HHr3 := Lib.hid (hp_below HHr2.out hb3)
    have HB3 := Lib.hid (HB2.out.seq hb3)
    have hs3 := hb3.size
    have HT3 := Lib.hid (hTw.below HB3.out)
    obtain ⟨p0, p1, p2, p3, p4, p5⟩ := blk6 HHp3.out
    obtain ⟨q0, q1, q2, q3, q4, q5⟩ := blk6 HHq3.out
    obtain ⟨r0, r1⟩ := blk2 HHr3.out
    go_wp2_with fail
    have Q4 := shown_any w3 HT3.out
    refine Q4.mono ?_
    rintro e w4 ⟨rfl, hb4⟩
    clear Q4
    clear p0 p1 p2 p3 p4 p5 q0 q1 q2 q3 q4 q5 r0 r1
    have HHp4 := Lib.hid (hp_below HHp3.out hb4)
    have HHq4 := Lib.hid (hp_below HHq3.out hb4)
    have HHr4 := Lib.hid (hp_below HHr3.out hb4)
    have HB4 := Lib.hid (HB3.out.seq hb4)
    have hs4 := hb4.size
    have HT4 := Lib.hid (hTw.below HB4.out)
    obtain ⟨p0, p1, p2, p3, p4, p5⟩ := blk6 HHp4.out
    obtain ⟨q0, q1, q2, q3, q4, q5⟩ := blk6 HHq4.out
    obtain ⟨r0, r1⟩ := blk2 HHr4.out
    go_wp2_with fail
    go_ret
    exact ⟨rfl, HB4.out⟩
  by_cases hc1 : e1 = 0
  rotate_left 1
  · have z1 : (e1 != 0) = true := by simpa using hc1
    obtain ⟨p0, p1, p2, p3, p4, p5⟩ := blk6 HHp1.out
    obtain ⟨q0, q1, q2, q3, q4, q5⟩ := blk6 HHq1.out
    obtain ⟨r0, r1⟩ := blk2 HHr1.out
    go_enter Tryz.func6, Tryz.ntmps6
    go_wp2_with fail
    have Q2 := great_any c1 _ w1 _ (HR1.out.below (HB1.out.mono (Nat.le_refl _))) HGA.out
    refine Q2.mono ?_
    rintro e w2 ⟨rfl, hb2⟩
    clear Q2
    clear p0 p1 p2 p3 p4 p5 q0 q1 q2 q3 q4 q5 r0 r1
    have HHp2 := Lib.hid (hp_below HHp1.out hb2)
    have HHq2 := Lib.hid (hp_below HHq1.out hb2)
    have HHr2 := Lib.hid (hp_below HHr1.out hb2)
    have HB2 := Lib.hid (HB1.out.seq hb2)
    have hs2 := hb2.size
    have HT2 := Lib.hid (hTw.below HB2.out)
    obtain ⟨p0, p1, p2, p3, p4, p5⟩ := blk6 HHp2.out
    obtain ⟨q0, q1, q2, q3, q4, q5⟩ := blk6 HHq2.out
    obtain ⟨r0, r1⟩ := blk2 HHr2.out
    go_wp2_with fail
    have Q3 := great_any c2 _ w2 _ (HR2.out.below (HB2.out.mono (Nat.le_refl _))) HGB.out
    refine Q3.mono ?_
    rintro e w3 ⟨rfl, hb3⟩
    clear Q3
    clear p0 p1 p2 p3 p4 p5 q0 q1 q2 q3 q4 q5 r0 r1
    have HHp3 := Lib.hid (hp_below HHp2.out hb3)
    have HHq3 := Lib.hid (hp_below HHq2.out hb3)
    have HHr3 := Lib.hid (hp_below HHr2.out hb3)
    have HB3 := Lib.hid (HB2.out.seq hb3)
    have hs3 := hb3.size
    have HT3 := Lib.hid (hTw.below HB3.out)
    obtain ⟨p0, p1, p2, p3, p4, p5⟩ := blk6 HHp3.out
    obtain ⟨q0, q1, q2, q3, q4, q5⟩ := blk6 HHq3.out
    obtain ⟨r0, r1⟩ := blk2 HHr3.out
    go_wp2_with fail
    have Q4 := check_val c1 _ w3 _ (HR1.out.below (HB3.out.mono (Nat.le_refl _))) HEN1.out
    refine Q4.mono ?_
    rintro e w4 ⟨rfl, hb4⟩
    clear Q4
    clear p0 p1 p2 p3 p4 p5 q0 q1 q2 q3 q4 q5 r0 r1
    have HHp4 := Lib.hid (hp_below HHp3.out hb4)
    have HHq4 := Lib.hid (hp_below HHq3.out hb4)
    have HHr4 := Lib.hid (hp_below HHr3.out hb4)
    have HB4 := Lib.hid (HB3.out.seq hb4)
    have hs4 := hb4.size
    have HT4 := Lib.hid (hTw.below HB4.out)
    obtain ⟨p0, p1, p2, p3, p4, p5⟩ := blk6 HHp4.out
    obtain ⟨q0, q1, q2, q3, q4, q5⟩ := blk6 HHq4.out
    obtain ⟨r0, r1⟩ := blk2 HHr4.out
    go_wp2_with fail
    have Q5 := shown_any w4 HT4.out
    refine Q5.mono ?_
    rintro e w5 ⟨rfl, hb5⟩
    clear Q5
    clear p0 p1 p2 p3 p4 p5 q0 q1 q2 q3 q4 q5 r0 r1
    have HHp5 := Lib.hid (hp_below HHp4.out hb5)
    have HHq5 := Lib.hid (hp_below HHq4.out hb5)
    have HHr5 := Lib.hid (hp_below HHr4.out hb5)
    have HB5 := Lib.hid (HB4.out.seq hb5)
    have hs5 := hb5.size
    have HT5 := Lib.hid (hTw.below HB5.out)
    obtain ⟨p0, p1, p2, p3, p4, p5⟩ := blk6 HHp5.out
    obtain ⟨q0, q1, q2, q3, q4, q5⟩ := blk6 HHq5.out
    obtain ⟨r0, r1⟩ := blk2 HHr5.out
    go_wp2_with fail
    go_ret
    exact ⟨rfl, HB5.out⟩
  by_cases hc2 : e2 = 0
  rotate_left 1
  · have z1 : (e1 != 0) = false := by simp [hc1]
    have z2 : (e2 != 0) = true := by simpa using hc2
    obtain ⟨p0, p1, p2, p3, p4, p5⟩ := blk6 HHp1.out
    obtain ⟨q0, q1, q2, q3, q4, q5⟩ := blk6 HHq1.out
    obtain ⟨r0, r1⟩ := blk2 HHr1.out
    go_enter Tryz.func6, Tryz.ntmps6
    go_wp2_with fail
    have Q2 := great_any c1 _ w1 _ (HR1.out.below (HB1.out.mono (Nat.le_refl _))) HGA.out
    refine Q2.mono ?_
    rintro e w2 ⟨rfl, hb2⟩
    clear Q2
    clear p0 p1 p2 p3 p4 p5 q0 q1 q2 q3 q4 q5 r0 r1
    have HHp2 := Lib.hid (hp_below HHp1.out hb2)
    have HHq2 := Lib.hid (hp_below HHq1.out hb2)
    have HHr2 := Lib.hid (hp_below HHr1.out hb2)
    have HB2 := Lib.hid (HB1.out.seq hb2)
    have hs2 := hb2.size
    have HT2 := Lib.hid (hTw.below HB2.out)
    obtain ⟨p0, p1, p2, p3, p4, p5⟩ := blk6 HHp2.out
    obtain ⟨q0, q1, q2, q3, q4, q5⟩ := blk6 HHq2.out
    obtain ⟨r0, r1⟩ := blk2 HHr2.out
    go_wp2_with fail
    have Q3 := great_any c2 _ w2 _ (HR2.out.below (HB2.out.mono (Nat.le_refl _))) HGB.out
    refine Q3.mono ?_
    rintro e w3 ⟨rfl, hb3⟩
    clear Q3
    clear p0 p1 p2 p3 p4 p5 q0 q1 q2 q3 q4 q5 r0 r1
    have HHp3 := Lib.hid (hp_below HHp2.out hb3)
    have HHq3 := Lib.hid (hp_below HHq2.out hb3)
    have HHr3 := Lib.hid (hp_below HHr2.out hb3)
    have HB3 := Lib.hid (HB2.out.seq hb3)
    have hs3 := hb3.size
    have HT3 := Lib.hid (hTw.below HB3.out)
    obtain ⟨p0, p1, p2, p3, p4, p5⟩ := blk6 HHp3.out
    obtain ⟨q0, q1, q2, q3, q4, q5⟩ := blk6 HHq3.out
    obtain ⟨r0, r1⟩ := blk2 HHr3.out
    go_wp2_with fail
    have Q4 := check_val c1 _ w3 _ (HR1.out.below (HB3.out.mono (Nat.le_refl _))) HEN1.out
    refine Q4.mono ?_
    rintro e w4 ⟨rfl, hb4⟩
    clear Q4
    clear p0 p1 p2 p3 p4 p5 q0 q1 q2 q3 q4 q5 r0 r1
    have HHp4 := Lib.hid (hp_below HHp3.out hb4)
    have HHq4 := Lib.hid (hp_below HHq3.out hb4)
    have HHr4 := Lib.hid (hp_below HHr3.out hb4)
    have HB4 := Lib.hid (HB3.out.seq hb4)
    have hs4 := hb4.size
    have HT4 := Lib.hid (hTw.below HB4.out)
    obtain ⟨p0, p1, p2, p3, p4, p5⟩ := blk6 HHp4.out
    obtain ⟨q0, q1, q2, q3, q4, q5⟩ := blk6 HHq4.out
    obtain ⟨r0, r1⟩ := blk2 HHr4.out
    go_wp2_with fail
    have Q5 := check_val c2 _ w4 _ (HR2.out.below (HB4.out.mono (Nat.le_refl _))) HEN2.out
    refine Q5.mono ?_
    rintro e w5 ⟨rfl, hb5⟩
    clear Q5
    clear p0 p1 p2 p3 p4 p5 q0 q1 q2 q3 q4 q5 r0 r1
    have HHp5 := Lib.hid (hp_below HHp4.out hb5)
    have HHq5 := Lib.hid (hp_below HHq4.out hb5)
    have HHr5 := Lib.hid (hp_below HHr4.out hb5)
    have HB5 := Lib.hid (HB4.out.seq hb5)
    have hs5 := hb5.size
    have HT5 := Lib.hid (hTw.below HB5.out)
    obtain ⟨p0, p1, p2, p3, p4, p5⟩ := blk6 HHp5.out
    obtain ⟨q0, q1, q2, q3, q4, q5⟩ := blk6 HHq5.out
    obtain ⟨r0, r1⟩ := blk2 HHr5.out
    go_wp2_with fail
    have Q6 := shown_any w5 HT5.out
    refine Q6.mono ?_
    rintro e w6 ⟨rfl, hb6⟩
    clear Q6
    clear p0 p1 p2 p3 p4 p5 q0 q1 q2 q3 q4 q5 r0 r1
    have HHp6 := Lib.hid (hp_below HHp5.out hb6)
    have HHq6 := Lib.hid (hp_below HHq5.out hb6)
    have HHr6 := Lib.hid (hp_below HHr5.out hb6)
    have HB6 := Lib.hid (HB5.out.seq hb6)
    have hs6 := hb6.size
    have HT6 := Lib.hid (hTw.below HB6.out)
    obtain ⟨p0, p1, p2, p3, p4, p5⟩ := blk6 HHp6.out
    obtain ⟨q0, q1, q2, q3, q4, q5⟩ := blk6 HHq6.out
    obtain ⟨r0, r1⟩ := blk2 HHr6.out
    go_wp2_with fail
    go_ret
    exact ⟨rfl, HB6.out⟩
  subst hc1
  subst hc2
  have HO12 : Hid (orE (chkR c1) (chkR c2) = 0) := Lib.hid (by unfold orE; rw [if_pos HE1.out]; exact HE2.out)
  have HO21 : Hid (orE (chkR c2) (chkR c1) = 0) := Lib.hid (by unfold orE; rw [if_pos HE2.out]; exact HE1.out)
  obtain ⟨RX, hRX⟩ : ∃ R, resF (chkR c1) (normF chkR (fHow 0 c1 c1) (addL [c1, c1] ([], []))) = R := ⟨_, rfl⟩
  obtain ⟨RY, hRY⟩ : ∃ R, resF (chkR c2) (normF chkR (fHow 0 c2 c2) (addL [c2, c2] ([], []))) = R := ⟨_, rfl⟩
  have FX := Lib.hid (norm_facts HE1.out hRX); have FY := Lib.hid (norm_facts HE2.out hRY)
  have HX := Lib.hid hRX; have HY := Lib.hid hRY
  obtain ⟨one, hone⟩ : ∃ o, (!(someF (fHow 3 c2 c1) (addL [c2, c1] ([], [])))) = o := ⟨_, rfl⟩
  obtain ⟨two, htwo⟩ : ∃ o, (!(someF (fHow 3 c1 c2) (addL [c1, c2] ([], [])))) = o := ⟨_, rfl⟩
  have HONE := Lib.hid hone; have HTWO := Lib.hid htwo
  obtain ⟨s0, hs0⟩ : ∃ s, someF (fHow 0 c1 c1) (addL [c1, c1] ([], [])) = s := ⟨_, rfl⟩
  obtain ⟨⟨⟨wa, wb⟩, we⟩, hwr⟩ : ∃ r, witR c1 [] = r := ⟨_, rfl⟩
  have FW := Lib.hid (wit_facts HE1.out hwr hs0)
  have HS0 := Lib.hid hs0; have HWR := Lib.hid hwr
  have z0 : ((0 : Int) != 0) = false := rfl
  have z1 : ((0 : Int) == 0) = true := rfl
  have z3 : ((3 : Int) == 0) = false := rfl
  have z4 : ((4 : Int) == 0) = false := rfl
  have z5 : ((4 : Int) == 4) = true := rfl
  have z6 : ((0 : Int) == 4) = false := rfl
  have z7 : (false != false) = false := rfl
  have z8 : (true != true) = false := rfl
  clear hRX hRY hone htwo hs0 hwr
  obtain ⟨p0, p1, p2, p3, p4, p5⟩ := blk6 HHp1.out
  obtain ⟨q0, q1, q2, q3, q4, q5⟩ := blk6 HHq1.out
  obtain ⟨r0, r1⟩ := blk2 HHr1.out
  go_enter Tryz.func6, Tryz.ntmps6
  go_wp2_with fail
  have Q2 := great_any c1 _ w1 _ (HR1.out.below (HB1.out.mono (Nat.le_refl _))) HGA.out
  refine Q2.mono ?_
  rintro e w2 ⟨rfl, hb2⟩
  clear Q2
  clear p0 p1 p2 p3 p4 p5 q0 q1 q2 q3 q4 q5 r0 r1
  have HHp2 := Lib.hid (hp_below HHp1.out hb2)
  have HHq2 := Lib.hid (hp_below HHq1.out hb2)
  have HHr2 := Lib.hid (hp_below HHr1.out hb2)
  have HB2 := Lib.hid (HB1.out.seq hb2)
  have hs2 := hb2.size
  have HT2 := Lib.hid (hTw.below HB2.out)
  obtain ⟨p0, p1, p2, p3, p4, p5⟩ := blk6 HHp2.out
  obtain ⟨q0, q1, q2, q3, q4, q5⟩ := blk6 HHq2.out
  obtain ⟨r0, r1⟩ := blk2 HHr2.out
  go_wp2_with fail
  have Q3 := great_any c2 _ w2 _ (HR2.out.below (HB2.out.mono (Nat.le_refl _))) HGB.out
  refine Q3.mono ?_
  rintro e w3 ⟨rfl, hb3⟩
  clear Q3
  clear p0 p1 p2 p3 p4 p5 q0 q1 q2 q3 q4 q5 r0 r1
  have HHp3 := Lib.hid (hp_below HHp2.out hb3)
  have HHq3 := Lib.hid (hp_below HHq2.out hb3)
  have HHr3 := Lib.hid (hp_below HHr2.out hb3)
  have HB3 := Lib.hid (HB2.out.seq hb3)
  have hs3 := hb3.size
  have HT3 := Lib.hid (hTw.below HB3.out)
  obtain ⟨p0, p1, p2, p3, p4, p5⟩ := blk6 HHp3.out
  obtain ⟨q0, q1, q2, q3, q4, q5⟩ := blk6 HHq3.out
  obtain ⟨r0, r1⟩ := blk2 HHr3.out
  go_wp2_with fail
  have Q4 := check_val c1 _ w3 _ (HR1.out.below (HB3.out.mono (Nat.le_refl _))) HEN1.out
  refine Q4.mono ?_
  rintro e w4 ⟨rfl, hb4⟩
  clear Q4
  clear p0 p1 p2 p3 p4 p5 q0 q1 q2 q3 q4 q5 r0 r1
  have HHp4 := Lib.hid (hp_below HHp3.out hb4)
  have HHq4 := Lib.hid (hp_below HHq3.out hb4)
  have HHr4 := Lib.hid (hp_below HHr3.out hb4)
  have HB4 := Lib.hid (HB3.out.seq hb4)
  have hs4 := hb4.size
  have HT4 := Lib.hid (hTw.below HB4.out)
  obtain ⟨p0, p1, p2, p3, p4, p5⟩ := blk6 HHp4.out
  obtain ⟨q0, q1, q2, q3, q4, q5⟩ := blk6 HHq4.out
  obtain ⟨r0, r1⟩ := blk2 HHr4.out
  go_wp2_with fail
  have Q5 := check_val c2 _ w4 _ (HR2.out.below (HB4.out.mono (Nat.le_refl _))) HEN2.out
  refine Q5.mono ?_
  rintro e w5 ⟨rfl, hb5⟩
  clear Q5
  clear p0 p1 p2 p3 p4 p5 q0 q1 q2 q3 q4 q5 r0 r1
  have HHp5 := Lib.hid (hp_below HHp4.out hb5)
  have HHq5 := Lib.hid (hp_below HHq4.out hb5)
  have HHr5 := Lib.hid (hp_below HHr4.out hb5)
  have HB5 := Lib.hid (HB4.out.seq hb5)
  have hs5 := hb5.size
  have HT5 := Lib.hid (hTw.below HB5.out)
  obtain ⟨p0, p1, p2, p3, p4, p5⟩ := blk6 HHp5.out
  obtain ⟨q0, q1, q2, q3, q4, q5⟩ := blk6 HHq5.out
  obtain ⟨r0, r1⟩ := blk2 HHr5.out
  go_wp2_with fail
  have Q6 := Normal_any c1 _ w5 _ (HR1.out.below (HB5.out.mono (Nat.le_refl _))) HT5.out
  rw [HX.out] at Q6
  refine Q6.mono ?_
  rintro e w6 ⟨csX, rfl, hrX, hb6⟩
  clear Q6
  obtain ⟨kX, nsX, nlX, sX, AX, nX, c0X, AX', nX', c0X', rfl⟩ := hrX.cells
  clear p0 p1 p2 p3 p4 p5 q0 q1 q2 q3 q4 q5 r0 r1
  have HHp6 := Lib.hid (hp_below HHp5.out hb6)
  have HHq6 := Lib.hid (hp_below HHq5.out hb6)
  have HHr6 := Lib.hid (hp_below HHr5.out hb6)
  have HB6 := Lib.hid (HB5.out.seq hb6)
  have hs6 := hb6.size
  have HT6 := Lib.hid (hTw.below HB6.out)
  have HXX6 := Lib.hid hrX
  clear hrX
  obtain ⟨w7, hw7, S7, hsz7, hb7⟩ := alloc_facts w6 (.cells #[.int .i64 kX, .string nsX, .string nlX, .string sX, .slice AX nX c0X, .slice AX' nX' c0X'] 28)
  have HHp7 := Lib.hid (hp_below HHp6.out hb7)
  have HHq7 := Lib.hid (hp_below HHq6.out hb7)
  have HHr7 := Lib.hid (hp_below HHr6.out hb7)
  have HXX7 := Lib.hid (HXX6.out.keepF hb7)
  have HB7 := Lib.hid (HB6.out.seq hb7)
  have hs7 := hb7.size
  have HT7 := Lib.hid (hTw.below HB7.out)
  have HHX7 := Lib.hid S7
  clear S7
  obtain ⟨p0, p1, p2, p3, p4, p5⟩ := blk6 HHp7.out
  obtain ⟨q0, q1, q2, q3, q4, q5⟩ := blk6 HHq7.out
  obtain ⟨r0, r1⟩ := blk2 HHr7.out
  obtain ⟨X0, X1, X2, X3, X4, X5⟩ := blk6 HHX7.out
  obtain ⟨cX, eX⟩ := RX
  simp only at HX FX HXX7 ⊢
  go_wp2_with fail
  have Q8 := Normal_any c2 _ w7 _ (HR2.out.below (HB7.out.mono (Nat.le_refl _))) HT7.out
  rw [HY.out] at Q8
  refine Q8.mono ?_
  rintro e w8 ⟨csY, rfl, hrY, hb8⟩
  clear Q8
  obtain ⟨kY, nsY, nlY, sY, AY, nY, c0Y, AY', nY', c0Y', rfl⟩ := hrY.cells
  clear p0 p1 p2 p3 p4 p5 q0 q1 q2 q3 q4 q5 r0 r1 X0 X1 X2 X3 X4 X5
  have HHp8 := Lib.hid (hp_below HHp7.out hb8)
  have HHq8 := Lib.hid (hp_below HHq7.out hb8)
  have HHr8 := Lib.hid (hp_below HHr7.out hb8)
  have HHX8 := Lib.hid (hp_below HHX7.out hb8)
  have HXX8 := Lib.hid (HXX7.out.keepF hb8)
  have HB8 := Lib.hid (HB7.out.seq hb8)
  have hs8 := hb8.size
  have HT8 := Lib.hid (hTw.below HB8.out)
  have HXY8 := Lib.hid hrY
  clear hrY
  obtain ⟨w9, hw9, S9, hsz9, hb9⟩ := alloc_facts w8 (.cells #[.int .i64 kY, .string nsY, .string nlY, .string sY, .slice AY nY c0Y, .slice AY' nY' c0Y'] 28)
  have HHp9 := Lib.hid (hp_below HHp8.out hb9)
  have HHq9 := Lib.hid (hp_below HHq8.out hb9)
  have HHr9 := Lib.hid (hp_below HHr8.out hb9)
  have HHX9 := Lib.hid (hp_below HHX8.out hb9)
  have HXX9 := Lib.hid (HXX8.out.keepF hb9)
  have HXY9 := Lib.hid (HXY8.out.keepF hb9)
  have HB9 := Lib.hid (HB8.out.seq hb9)
  have hs9 := hb9.size
  have HT9 := Lib.hid (hTw.below HB9.out)
  have HHY9 := Lib.hid S9
  clear S9
  obtain ⟨p0, p1, p2, p3, p4, p5⟩ := blk6 HHp9.out
  obtain ⟨q0, q1, q2, q3, q4, q5⟩ := blk6 HHq9.out
  obtain ⟨r0, r1⟩ := blk2 HHr9.out
  obtain ⟨X0, X1, X2, X3, X4, X5⟩ := blk6 HHX9.out
  obtain ⟨Y0, Y1, Y2, Y3, Y4, Y5⟩ := blk6 HHY9.out
  obtain ⟨cY, eY⟩ := RY
  simp only at HY FY HXY9 ⊢
  go_wp2_with fail
  have Q10 := Includes_any c1 c2 _ _ w9 _ _ (HR1.out.below (HB9.out.mono (Nat.le_refl _))) (HR2.out.below (HB9.out.mono (Nat.le_refl _))) HT9.out
  rw [HONE.out, HO12.out, ask_val] at Q10
  refine Q10.mono ?_
  rintro e w10 ⟨rfl, hb10⟩
  clear Q10
  clear p0 p1 p2 p3 p4 p5 q0 q1 q2 q3 q4 q5 r0 r1 X0 X1 X2 X3 X4 X5 Y0 Y1 Y2 Y3 Y4 Y5
  have HHp10 := Lib.hid (hp_below HHp9.out hb10)
  have HHq10 := Lib.hid (hp_below HHq9.out hb10)
  have HHr10 := Lib.hid (hp_below HHr9.out hb10)
  have HHX10 := Lib.hid (hp_below HHX9.out hb10)
  have HHY10 := Lib.hid (hp_below HHY9.out hb10)
  have HXX10 := Lib.hid (HXX9.out.keepF hb10)
  have HXY10 := Lib.hid (HXY9.out.keepF hb10)
  have HB10 := Lib.hid (HB9.out.seq hb10)
  have hs10 := hb10.size
  have HT10 := Lib.hid (hTw.below HB10.out)
  obtain ⟨p0, p1, p2, p3, p4, p5⟩ := blk6 HHp10.out
  obtain ⟨q0, q1, q2, q3, q4, q5⟩ := blk6 HHq10.out
  obtain ⟨r0, r1⟩ := blk2 HHr10.out
  obtain ⟨X0, X1, X2, X3, X4, X5⟩ := blk6 HHX10.out
  obtain ⟨Y0, Y1, Y2, Y3, Y4, Y5⟩ := blk6 HHY10.out
  go_wp2_with fail
  have Q11 := Includes_any c2 c1 _ _ w10 _ _ (HR2.out.below (HB10.out.mono (Nat.le_refl _))) (HR1.out.below (HB10.out.mono (Nat.le_refl _))) HT10.out
  rw [HTWO.out, HO21.out, ask_val] at Q11
  refine Q11.mono ?_
  rintro e w11 ⟨rfl, hb11⟩
  clear Q11
  clear p0 p1 p2 p3 p4 p5 q0 q1 q2 q3 q4 q5 r0 r1 X0 X1 X2 X3 X4 X5 Y0 Y1 Y2 Y3 Y4 Y5
  have HHp11 := Lib.hid (hp_below HHp10.out hb11)
  have HHq11 := Lib.hid (hp_below HHq10.out hb11)
  have HHr11 := Lib.hid (hp_below HHr10.out hb11)
  have HHX11 := Lib.hid (hp_below HHX10.out hb11)
  have HHY11 := Lib.hid (hp_below HHY10.out hb11)
  have HXX11 := Lib.hid (HXX10.out.keepF hb11)
  have HXY11 := Lib.hid (HXY10.out.keepF hb11)
  have HB11 := Lib.hid (HB10.out.seq hb11)
  have hs11 := hb11.size
  have HT11 := Lib.hid (hTw.below HB11.out)
  obtain ⟨p0, p1, p2, p3, p4, p5⟩ := blk6 HHp11.out
  obtain ⟨q0, q1, q2, q3, q4, q5⟩ := blk6 HHq11.out
  obtain ⟨r0, r1⟩ := blk2 HHr11.out
  obtain ⟨X0, X1, X2, X3, X4, X5⟩ := blk6 HHX11.out
  obtain ⟨Y0, Y1, Y2, Y3, Y4, Y5⟩ := blk6 HHY11.out
  go_upto_region 7 with fail
  go_cut [87] (fun s87 wc => s87 = .bool false ∧ Below w11.heap.size w11 wc)
  case first =>
    rcases FX.out.2 with he | he
    · subst he
      go_wp2_with fail
      go_meet
      case rel => exact ⟨rfl, Below.refl _ _⟩
    rcases FY.out.2 with hf | hf
    · subst he
      subst hf
      go_wp2_with fail
      go_meet
      case rel => exact ⟨rfl, Below.refl _ _⟩
    · subst he
      subst hf
      have hsc := same_facts FX.out.1 FY.out.1 rfl rfl
      rw [HONE.out, HTWO.out] at hsc
      obtain ⟨sc, hsv⟩ : ∃ v, sameC 40 cX cY = v := ⟨_, rfl⟩
      rw [hsv] at hsc
      have HSC := Lib.hid hsv
      clear hsv
      cases one <;> cases two
      all_goals
        replace hsc : sc = _ := hsc
        simp only [Bool.and_true, Bool.and_false] at hsc
        subst hsc
        go_wp2_with fail
        refine (SameClass_val cX cY _ _ w11 _ _ HXX11.out HXY11.out HSC.out).mono ?_
        rintro e wE ⟨rfl, hbE⟩
        go_wp2_with fail
        go_meet
        case rel => exact ⟨rfl, hbE⟩
  case rest =>
  obtain ⟨rfl, hb12⟩ := hcut
  clear p0 p1 p2 p3 p4 p5 q0 q1 q2 q3 q4 q5 r0 r1 X0 X1 X2 X3 X4 X5 Y0 Y1 Y2 Y3 Y4 Y5
  rename World => w12
  have HHp12 := Lib.hid (hp_below HHp11.out hb12)
  have HHq12 := Lib.hid (hp_below HHq11.out hb12)
  have HHr12 := Lib.hid (hp_below HHr11.out hb12)
  have HHX12 := Lib.hid (hp_below HHX11.out hb12)
  have HHY12 := Lib.hid (hp_below HHY11.out hb12)
  have HXX12 := Lib.hid (HXX11.out.keepF hb12)
  have HXY12 := Lib.hid (HXY11.out.keepF hb12)
  have HB12 := Lib.hid (HB11.out.seq hb12)
  have hs12 := hb12.size
  have HT12 := Lib.hid (hTw.below HB12.out)
  obtain ⟨p0, p1, p2, p3, p4, p5⟩ := blk6 HHp12.out
  obtain ⟨q0, q1, q2, q3, q4, q5⟩ := blk6 HHq12.out
  obtain ⟨r0, r1⟩ := blk2 HHr12.out
  obtain ⟨X0, X1, X2, X3, X4, X5⟩ := blk6 HHX12.out
  obtain ⟨Y0, Y1, Y2, Y3, Y4, Y5⟩ := blk6 HHY12.out
  go_upto_if 89 with fail
  go_cut [] (fun wc => Below w12.heap.size w12 wc)
  case first =>
    rcases FX.out.2 with he | he
    · subst he
      go_wp2_with fail
      go_meet
      case rel => exact Below.refl _ _
    · subst he
      obtain ⟨g1, g2, g3, g4, g5⟩ := back_facts FX.out.1 rfl
      have G1 := Lib.hid g1; have G2 := Lib.hid g2; have G3 := Lib.hid g3; have G4 := Lib.hid g4; have G5 := Lib.hid g5
      have GO1 : Hid (orE (chkR cX) (chkR c1) = 0) := Lib.hid (by unfold orE; rw [if_pos g1]; exact HE1.out)
      have GO2 : Hid (orE (chkR c1) (chkR cX) = 0) := Lib.hid (by unfold orE; rw [if_pos HE1.out]; exact g1)
      clear g1 g2 g3 g4 g5
      go_wp2_with fail
      have Q13 := Includes_any cX c1 _ _ w12 _ _ HXX12.out (HR1.out.below (HB12.out.mono (Nat.le_refl _))) HT12.out
      rw [G2.out, GO1.out, ask_val] at Q13
      refine Q13.mono ?_
      rintro e w13 ⟨rfl, hb13⟩
      clear Q13
      clear p0 p1 p2 p3 p4 p5 q0 q1 q2 q3 q4 q5 r0 r1 X0 X1 X2 X3 X4 X5 Y0 Y1 Y2 Y3 Y4 Y5
      have HHp13 := Lib.hid (hp_below HHp12.out hb13)
      have HHq13 := Lib.hid (hp_below HHq12.out hb13)
      have HHr13 := Lib.hid (hp_below HHr12.out hb13)
      have HHX13 := Lib.hid (hp_below HHX12.out hb13)
      have HHY13 := Lib.hid (hp_below HHY12.out hb13)
      have HXX13 := Lib.hid (HXX12.out.keepF hb13)
      have HXY13 := Lib.hid (HXY12.out.keepF hb13)
      have HB13 := Lib.hid (HB12.out.seq hb13)
      have hs13 := hb13.size
      have HT13 := Lib.hid (hTw.below HB13.out)
      obtain ⟨p0, p1, p2, p3, p4, p5⟩ := blk6 HHp13.out
      obtain ⟨q0, q1, q2, q3, q4, q5⟩ := blk6 HHq13.out
      obtain ⟨r0, r1⟩ := blk2 HHr13.out
      obtain ⟨X0, X1, X2, X3, X4, X5⟩ := blk6 HHX13.out
      obtain ⟨Y0, Y1, Y2, Y3, Y4, Y5⟩ := blk6 HHY13.out
      go_wp2_with fail
      have Q14 := Includes_any c1 cX _ _ w13 _ _ (HR1.out.below (HB13.out.mono (Nat.le_refl _))) HXX13.out HT13.out
      rw [G3.out, GO2.out, ask_val] at Q14
      refine Q14.mono ?_
      rintro e w14 ⟨rfl, hb14⟩
      clear Q14
      clear p0 p1 p2 p3 p4 p5 q0 q1 q2 q3 q4 q5 r0 r1 X0 X1 X2 X3 X4 X5 Y0 Y1 Y2 Y3 Y4 Y5
      have HHp14 := Lib.hid (hp_below HHp13.out hb14)
      have HHq14 := Lib.hid (hp_below HHq13.out hb14)
      have HHr14 := Lib.hid (hp_below HHr13.out hb14)
      have HHX14 := Lib.hid (hp_below HHX13.out hb14)
      have HHY14 := Lib.hid (hp_below HHY13.out hb14)
      have HXX14 := Lib.hid (HXX13.out.keepF hb14)
      have HXY14 := Lib.hid (HXY13.out.keepF hb14)
      have HB14 := Lib.hid (HB13.out.seq hb14)
      have hs14 := hb14.size
      have HT14 := Lib.hid (hTw.below HB14.out)
      obtain ⟨p0, p1, p2, p3, p4, p5⟩ := blk6 HHp14.out
      obtain ⟨q0, q1, q2, q3, q4, q5⟩ := blk6 HHq14.out
      obtain ⟨r0, r1⟩ := blk2 HHr14.out
      obtain ⟨X0, X1, X2, X3, X4, X5⟩ := blk6 HHX14.out
      obtain ⟨Y0, Y1, Y2, Y3, Y4, Y5⟩ := blk6 HHY14.out
      go_wp2_with fail
      have Q15 := Normal_any cX _ w14 _ HXX14.out HT14.out
      rw [G4.out] at Q15
      refine Q15.mono ?_
      rintro e w15 ⟨csZ, rfl, hrZ, hb15⟩
      clear Q15
      obtain ⟨kZ, nsZ, nlZ, sZ, AZ, nZ, c0Z, AZ', nZ', c0Z', rfl⟩ := hrZ.cells
      clear p0 p1 p2 p3 p4 p5 q0 q1 q2 q3 q4 q5 r0 r1 X0 X1 X2 X3 X4 X5 Y0 Y1 Y2 Y3 Y4 Y5
      have HHp15 := Lib.hid (hp_below HHp14.out hb15)
      have HHq15 := Lib.hid (hp_below HHq14.out hb15)
      have HHr15 := Lib.hid (hp_below HHr14.out hb15)
      have HHX15 := Lib.hid (hp_below HHX14.out hb15)
      have HHY15 := Lib.hid (hp_below HHY14.out hb15)
      have HXX15 := Lib.hid (HXX14.out.keepF hb15)
      have HXY15 := Lib.hid (HXY14.out.keepF hb15)
      have HB15 := Lib.hid (HB14.out.seq hb15)
      have hs15 := hb15.size
      have HT15 := Lib.hid (hTw.below HB15.out)
      have HXZ15 := Lib.hid hrZ
      clear hrZ
      obtain ⟨w16, hw16, S16, hsz16, hb16⟩ := alloc_facts w15 (.cells #[.int .i64 kZ, .string nsZ, .string nlZ, .string sZ, .slice AZ nZ c0Z, .slice AZ' nZ' c0Z'] 28)
      have HHp16 := Lib.hid (hp_below HHp15.out hb16)
      have HHq16 := Lib.hid (hp_below HHq15.out hb16)
      have HHr16 := Lib.hid (hp_below HHr15.out hb16)
      have HHX16 := Lib.hid (hp_below HHX15.out hb16)
      have HHY16 := Lib.hid (hp_below HHY15.out hb16)
      have HXX16 := Lib.hid (HXX15.out.keepF hb16)
      have HXY16 := Lib.hid (HXY15.out.keepF hb16)
      have HXZ16 := Lib.hid (HXZ15.out.keepF hb16)
      have HB16 := Lib.hid (HB15.out.seq hb16)
      have hs16 := hb16.size
      have HT16 := Lib.hid (hTw.below HB16.out)
      have HHZ16 := Lib.hid S16
      clear S16
      obtain ⟨p0, p1, p2, p3, p4, p5⟩ := blk6 HHp16.out
      obtain ⟨q0, q1, q2, q3, q4, q5⟩ := blk6 HHq16.out
      obtain ⟨r0, r1⟩ := blk2 HHr16.out
      obtain ⟨X0, X1, X2, X3, X4, X5⟩ := blk6 HHX16.out
      obtain ⟨Y0, Y1, Y2, Y3, Y4, Y5⟩ := blk6 HHY16.out
      obtain ⟨Z0, Z1, Z2, Z3, Z4, Z5⟩ := blk6 HHZ16.out
      go_wp2_with fail
      refine (SameClass_val cX cX _ _ w16 _ _ HXZ16.out HXX16.out G5.out).mono ?_
      rintro e wE ⟨rfl, hbE⟩
      go_wp2_with fail
      go_meet
      case rel => exact (((hb13.seq hb14).seq hb15).seq hb16).seq hbE
  case rest =>
  have hb13 := hcut
  clear p0 p1 p2 p3 p4 p5 q0 q1 q2 q3 q4 q5 r0 r1 X0 X1 X2 X3 X4 X5 Y0 Y1 Y2 Y3 Y4 Y5
  rename World => w13
  have HHp13 := Lib.hid (hp_below HHp12.out hb13)
  have HHq13 := Lib.hid (hp_below HHq12.out hb13)
  have HHr13 := Lib.hid (hp_below HHr12.out hb13)
  have HHX13 := Lib.hid (hp_below HHX12.out hb13)
  have HHY13 := Lib.hid (hp_below HHY12.out hb13)
  have HXX13 := Lib.hid (HXX12.out.keepF hb13)
  have HXY13 := Lib.hid (HXY12.out.keepF hb13)
  have HB13 := Lib.hid (HB12.out.seq hb13)
  have hs13 := hb13.size
  have HT13 := Lib.hid (hTw.below HB13.out)
  obtain ⟨p0, p1, p2, p3, p4, p5⟩ := blk6 HHp13.out
  obtain ⟨q0, q1, q2, q3, q4, q5⟩ := blk6 HHq13.out
  obtain ⟨r0, r1⟩ := blk2 HHr13.out
  obtain ⟨X0, X1, X2, X3, X4, X5⟩ := blk6 HHX13.out
  obtain ⟨Y0, Y1, Y2, Y3, Y4, Y5⟩ := blk6 HHY13.out
  go_wp2_with fail
  have Q14 := Witness_any c1 _ [] none 0 0 w13 _ (fun _ => True) (HR1.out.below (HB13.out.mono (Nat.le_refl _))) (RowV.nil _ _ _ _ _) (by omega) HT13.out
  rw [HWR.out] at Q14
  refine Q14.mono ?_
  rintro e w14 ⟨rfl, hb14⟩
  clear Q14
  clear p0 p1 p2 p3 p4 p5 q0 q1 q2 q3 q4 q5 r0 r1 X0 X1 X2 X3 X4 X5 Y0 Y1 Y2 Y3 Y4 Y5
  have HHp14 := Lib.hid (hp_below HHp13.out hb14)
  have HHq14 := Lib.hid (hp_below HHq13.out hb14)
  have HHr14 := Lib.hid (hp_below HHr13.out hb14)
  have HHX14 := Lib.hid (hp_below HHX13.out hb14)
  have HHY14 := Lib.hid (hp_below HHY13.out hb14)
  have HXX14 := Lib.hid (HXX13.out.keepF hb14)
  have HXY14 := Lib.hid (HXY13.out.keepF hb14)
  have HB14 := Lib.hid (HB13.out.seq hb14)
  have hs14 := hb14.size
  have HT14 := Lib.hid (hTw.below HB14.out)
  obtain ⟨w15, hw15, S15, hsz15, hb15⟩ := alloc_facts w14 (.cells #[.string wa, .string wb] 24)
  have HHp15 := Lib.hid (hp_below HHp14.out hb15)
  have HHq15 := Lib.hid (hp_below HHq14.out hb15)
  have HHr15 := Lib.hid (hp_below HHr14.out hb15)
  have HHX15 := Lib.hid (hp_below HHX14.out hb15)
  have HHY15 := Lib.hid (hp_below HHY14.out hb15)
  have HXX15 := Lib.hid (HXX14.out.keepF hb15)
  have HXY15 := Lib.hid (HXY14.out.keepF hb15)
  have HB15 := Lib.hid (HB14.out.seq hb15)
  have hs15 := hb15.size
  have HT15 := Lib.hid (hTw.below HB15.out)
  have HHv15 := Lib.hid S15; clear S15
  obtain ⟨p0, p1, p2, p3, p4, p5⟩ := blk6 HHp15.out
  obtain ⟨q0, q1, q2, q3, q4, q5⟩ := blk6 HHq15.out
  obtain ⟨r0, r1⟩ := blk2 HHr15.out
  obtain ⟨X0, X1, X2, X3, X4, X5⟩ := blk6 HHX15.out
  obtain ⟨Y0, Y1, Y2, Y3, Y4, Y5⟩ := blk6 HHY15.out
  obtain ⟨v0, v1⟩ := blk2 HHv15.out
  go_wp2_with fail
  have Q16 := Empty_any c1 _ w15 _ (HR1.out.below (HB15.out.mono (Nat.le_refl _))) HT15.out
  rw [HS0.out, HE1.out, ask_val] at Q16
  refine Q16.mono ?_
  rintro e w16 ⟨rfl, hb16⟩
  clear Q16
  clear p0 p1 p2 p3 p4 p5 q0 q1 q2 q3 q4 q5 r0 r1 X0 X1 X2 X3 X4 X5 Y0 Y1 Y2 Y3 Y4 Y5 v0 v1
  have HHp16 := Lib.hid (hp_below HHp15.out hb16)
  have HHq16 := Lib.hid (hp_below HHq15.out hb16)
  have HHr16 := Lib.hid (hp_below HHr15.out hb16)
  have HHX16 := Lib.hid (hp_below HHX15.out hb16)
  have HHY16 := Lib.hid (hp_below HHY15.out hb16)
  have HHv16 := Lib.hid (hp_below HHv15.out hb16)
  have HXX16 := Lib.hid (HXX15.out.keepF hb16)
  have HXY16 := Lib.hid (HXY15.out.keepF hb16)
  have HB16 := Lib.hid (HB15.out.seq hb16)
  have hs16 := hb16.size
  have HT16 := Lib.hid (hTw.below HB16.out)
  obtain ⟨p0, p1, p2, p3, p4, p5⟩ := blk6 HHp16.out
  obtain ⟨q0, q1, q2, q3, q4, q5⟩ := blk6 HHq16.out
  obtain ⟨r0, r1⟩ := blk2 HHr16.out
  obtain ⟨X0, X1, X2, X3, X4, X5⟩ := blk6 HHX16.out
  obtain ⟨Y0, Y1, Y2, Y3, Y4, Y5⟩ := blk6 HHY16.out
  obtain ⟨v0, v1⟩ := blk2 HHv16.out
  rcases FW.out with ⟨h1, h2, h3⟩ | ⟨h1, h2⟩
  · subst h1
    subst h2
    have zz : (!true) = false := rfl
    have H3 := Lib.hid h3; clear h3
    go_wp2_with fail
    have Q17 := Has_any wa wb c1 _ w16 _ (HR1.out.below (HB16.out.mono (Nat.le_refl _)))
    rw [H3.out] at Q17
    refine Q17.mono ?_
    rintro e w17 ⟨rfl, hb17⟩
    clear Q17
    clear p0 p1 p2 p3 p4 p5 q0 q1 q2 q3 q4 q5 r0 r1 X0 X1 X2 X3 X4 X5 Y0 Y1 Y2 Y3 Y4 Y5 v0 v1
    have HHp17 := Lib.hid (hp_below HHp16.out hb17)
    have HHq17 := Lib.hid (hp_below HHq16.out hb17)
    have HHr17 := Lib.hid (hp_below HHr16.out hb17)
    have HHX17 := Lib.hid (hp_below HHX16.out hb17)
    have HHY17 := Lib.hid (hp_below HHY16.out hb17)
    have HHv17 := Lib.hid (hp_below HHv16.out hb17)
    have HXX17 := Lib.hid (HXX16.out.keepF hb17)
    have HXY17 := Lib.hid (HXY16.out.keepF hb17)
    have HB17 := Lib.hid (HB16.out.seq hb17)
    have hs17 := hb17.size
    have HT17 := Lib.hid (hTw.below HB17.out)
    obtain ⟨p0, p1, p2, p3, p4, p5⟩ := blk6 HHp17.out
    obtain ⟨q0, q1, q2, q3, q4, q5⟩ := blk6 HHq17.out
    obtain ⟨r0, r1⟩ := blk2 HHr17.out
    obtain ⟨X0, X1, X2, X3, X4, X5⟩ := blk6 HHX17.out
    obtain ⟨Y0, Y1, Y2, Y3, Y4, Y5⟩ := blk6 HHY17.out
    obtain ⟨v0, v1⟩ := blk2 HHv17.out
    go_wp2_with fail
    refine (pieces_any c1 c2 _ _ a b one w17 _ _ (HR1.out.below (HB17.out.mono (Nat.le_refl _))) (HR2.out.below (HB17.out.mono (Nat.le_refl _))) HT17.out HE1.out HE2.out HONE.out).mono ?_
    rintro e w18 ⟨rfl, hb18⟩
    clear p0 p1 p2 p3 p4 p5 q0 q1 q2 q3 q4 q5 r0 r1 X0 X1 X2 X3 X4 X5 Y0 Y1 Y2 Y3 Y4 Y5 v0 v1
    have HHp18 := Lib.hid (hp_below HHp17.out hb18)
    have HHq18 := Lib.hid (hp_below HHq17.out hb18)
    have HHr18 := Lib.hid (hp_below HHr17.out hb18)
    have HHX18 := Lib.hid (hp_below HHX17.out hb18)
    have HHY18 := Lib.hid (hp_below HHY17.out hb18)
    have HHv18 := Lib.hid (hp_below HHv17.out hb18)
    have HXX18 := Lib.hid (HXX17.out.keepF hb18)
    have HXY18 := Lib.hid (HXY17.out.keepF hb18)
    have HB18 := Lib.hid (HB17.out.seq hb18)
    have hs18 := hb18.size
    have HT18 := Lib.hid (hTw.below HB18.out)
    obtain ⟨p0, p1, p2, p3, p4, p5⟩ := blk6 HHp18.out
    obtain ⟨q0, q1, q2, q3, q4, q5⟩ := blk6 HHq18.out
    obtain ⟨r0, r1⟩ := blk2 HHr18.out
    obtain ⟨X0, X1, X2, X3, X4, X5⟩ := blk6 HHX18.out
    obtain ⟨Y0, Y1, Y2, Y3, Y4, Y5⟩ := blk6 HHY18.out
    obtain ⟨v0, v1⟩ := blk2 HHv18.out
    go_wp2_with fail
    refine (shown_any w18 HT18.out).mono ?_
    rintro e w19 ⟨rfl, hb19⟩
    go_wp2_with fail
    go_ret
    exact ⟨rfl, HB18.out.seq hb19⟩
  · subst h1
    subst h2
    have zz : (!false) = true := rfl
    go_wp2_with fail
    refine (pieces_any c1 c2 _ _ a b one w16 _ _ (HR1.out.below (HB16.out.mono (Nat.le_refl _))) (HR2.out.below (HB16.out.mono (Nat.le_refl _))) HT16.out HE1.out HE2.out HONE.out).mono ?_
    rintro e w17 ⟨rfl, hb17⟩
    clear p0 p1 p2 p3 p4 p5 q0 q1 q2 q3 q4 q5 r0 r1 X0 X1 X2 X3 X4 X5 Y0 Y1 Y2 Y3 Y4 Y5 v0 v1
    have HHp17 := Lib.hid (hp_below HHp16.out hb17)
    have HHq17 := Lib.hid (hp_below HHq16.out hb17)
    have HHr17 := Lib.hid (hp_below HHr16.out hb17)
    have HHX17 := Lib.hid (hp_below HHX16.out hb17)
    have HHY17 := Lib.hid (hp_below HHY16.out hb17)
    have HHv17 := Lib.hid (hp_below HHv16.out hb17)
    have HXX17 := Lib.hid (HXX16.out.keepF hb17)
    have HXY17 := Lib.hid (HXY16.out.keepF hb17)
    have HB17 := Lib.hid (HB16.out.seq hb17)
    have hs17 := hb17.size
    have HT17 := Lib.hid (hTw.below HB17.out)
    obtain ⟨p0, p1, p2, p3, p4, p5⟩ := blk6 HHp17.out
    obtain ⟨q0, q1, q2, q3, q4, q5⟩ := blk6 HHq17.out
    obtain ⟨r0, r1⟩ := blk2 HHr17.out
    obtain ⟨X0, X1, X2, X3, X4, X5⟩ := blk6 HHX17.out
    obtain ⟨Y0, Y1, Y2, Y3, Y4, Y5⟩ := blk6 HHY17.out
    obtain ⟨v0, v1⟩ := blk2 HHv17.out
    go_wp2_with fail
    refine (shown_any w17 HT17.out).mono ?_
    rintro e w18 ⟨rfl, hb18⟩
    go_wp2_with fail
    go_ret
    exact ⟨rfl, HB17.out.seq hb18⟩
end Go.Proofs.YtfildbkkmnfekaaGreatDoor
