/- gabaritref01's Empty, Includes, Overlap. gabaritref01's Witness. -/
import Derived.Test.YtfildbkkmnfekaaGreatDoorG39
import Derived.Test.YtfildbkkmnfekaaGreatDoorWitA
import Derived.Test.YtfildbkkmnfekaaGreatDoorG11
import Derived.Test.YtfildbkkmnfekaaGreatDoorG18
import Derived.Test.YtfildbkkmnfekaaGreatDoorSince
import Derived.Test.YtfildbkkmnfekaaGreatDoorG20
import Derived.WalkKit
import Derived.WalkSpells
import Derived.WalkLawsBesides
import Derived.BigGuardPart
import Derived.Lib.Hide
import Derived.Deep.QuietTactic
import Derived.BigQuiet
import Derived.StillTailTactics
import Derived.Deep.DeepCutAuto
import Derived.Deep.CutBlock
import Derived.Laws.EntriesVeiled
namespace Go.Proofs.YtfildbkkmnfekaaGreatDoor
open Go.RowKit

/-- A yes or no, if there is no error. -/
def askF (e : Int) (v : Bool) : Bool := if e = 0 then v else false
set_option maxHeartbeats 1000000 in
set_option maxRecDepth 100000 in
theorem refEmpty_any (c1 : Cls) (cs1 : List Value) (w : World) (F1 : Nat → Prop) (hr1 : RepC w F1 c1 cs1) (hn : chkR c1 = 0 → numL [c1, c1] < 1000) :
    Calls Tryz.prog 29 #[.agg cs1.toArray] w fun e w' => e = .returned (.tuple #[.bool (askF (chkR c1) (!(someF (fHow 0 c1 c1) (addL [c1, c1] ([], []))))), .int .i64 (chkR c1)]) ∧ Below w.heap.size w w' := by
  obtain ⟨sv, hsv⟩ : ∃ sv, (someF (fHow 0 c1 c1) (addL [c1, c1] ([], []))) = sv := ⟨_, rfl⟩
  rw [hsv]
  have HSV := Lib.hid hsv; have HN := Lib.hid hn
  clear hsv hn
  obtain ⟨e0, he0⟩ : ∃ e0, chkR c1 = e0 := ⟨_, rfl⟩
  have HE := Lib.hid he0
  rw [he0]
  have HZ : Hid (e0 = 0 → numL [c1, c1] < 1000) := Lib.hid (by intro h; exact HN.out (he0.trans h))
  have hr1' := hr1.here
  obtain ⟨k1, ns1, nl1, s1, A1, n1, c01, A1', n1', c01', rfl⟩ := hr1.cells
  obtain ⟨w1, hw1, S1, hsz, hb1⟩ := alloc_facts w (.cells #[.int .i64 k1, .string ns1, .string nl1, .string s1, .slice A1 n1 c01, .slice A1' n1' c01'] 28)
  have HR1 := Lib.hid (hr1'.below hb1)
  obtain ⟨p0, p1, p2, p3, p4, p5⟩ := blk6 S1
  clear S1 hr1 hr1' he0
  by_cases he : e0 = 0
  · have HZ0 := Lib.hid (HZ.out he)
    subst he
    have hcc : ((0 : Int) == 0) = true := rfl
    have HX : Hid (∀ v, askF 0 v = v) := Lib.hid fun v => if_pos rfl
    clear HZ HN
    go_enter Tryz.func29, Tryz.ntmps29
    go_wp2_with fail
    refine (refcheck_val c1 _ w1 _ HR1.out HE.out).mono ?_
    rintro e w2 ⟨rfl, hb2⟩
    obtain ⟨hc2, hf2⟩ := bcell hb2
    go_wp2_with fail
    refine (refsome_any 0 c1 c1 _ _ w2 _ _ (HR1.out.below (hb2.mono (by omega))) (HR1.out.below (hb2.mono (by omega))) HZ0.out).mono ?_
    rw [HSV.out]
    rintro e w3 ⟨rfl, hb3⟩
    go_wp2_with fail
    go_ret2
    exact ⟨by rw [HX.out]; rfl, hb1.seq (hb2.seq hb3)⟩
  · have hcc : (e0 == 0) = false := by simpa using he
    have HX : Hid (∀ v, askF e0 v = false) := Lib.hid fun v => if_neg he
    clear he HZ HN
    go_enter Tryz.func29, Tryz.ntmps29
    go_wp2_with fail
    refine (refcheck_val c1 _ w1 _ HR1.out HE.out).mono ?_
    rintro e w2 ⟨rfl, hb2⟩
    go_wp2_with fail
    go_ret2
    exact ⟨by rw [HX.out]; rfl, hb1.seq hb2⟩
set_option maxHeartbeats 1000000 in
set_option maxRecDepth 100000 in
theorem refIncludes_any (c1 c2 : Cls) (cs1 cs2 : List Value) (w : World) (F1 F2 : Nat → Prop) (hr1 : RepC w F1 c1 cs1) (hr2 : RepC w F2 c2 cs2) (hn : chkR c1 = 0 → chkR c2 = 0 → numL [c2, c1] < 1000) :
    Calls Tryz.prog 31 #[.agg cs1.toArray, .agg cs2.toArray] w fun e w' => e = .returned (.tuple #[.bool (askF (orE (chkR c1) (chkR c2)) (!(someF (fHow 3 c2 c1) (addL [c2, c1] ([], []))))), .int .i64 (orE (chkR c1) (chkR c2))]) ∧ Below w.heap.size w w' := by
  obtain ⟨sv, hsv⟩ : ∃ sv, (someF (fHow 3 c2 c1) (addL [c2, c1] ([], []))) = sv := ⟨_, rfl⟩
  rw [hsv]
  have HSV := Lib.hid hsv; have HN := Lib.hid hn
  clear hsv hn
  obtain ⟨e1, he1⟩ : ∃ e1, chkR c1 = e1 := ⟨_, rfl⟩
  obtain ⟨e2, he2⟩ : ∃ e2, chkR c2 = e2 := ⟨_, rfl⟩
  rw [he1, he2]
  obtain ⟨e0, he0⟩ : ∃ e0, orE e1 e2 = e0 := ⟨_, rfl⟩
  have H2 : Hid (∀ W F1 F2, RepC W F1 c1 cs1 → RepC W F2 c2 cs2 → Calls Tryz.prog 68 #[.agg cs1.toArray, .agg cs2.toArray] W fun e w' => e = .returned (.int .i64 e0) ∧ Below W.heap.size W w') := Lib.hid fun W F1 F2 h1 h2 => by
    rw [← he0]; exact two_val c1 c2 _ _ W F1 F2 h1 h2 he1 he2
  rw [he0]
  have HZ : Hid (e0 = 0 → numL [c2, c1] < 1000) := Lib.hid (by
    intro h
    rw [← he0] at h
    unfold orE at h
    by_cases h1 : e1 = 0
    · rw [if_pos h1] at h; exact HN.out (he1.trans h1) (he2.trans h)
    · rw [if_neg h1] at h; exact absurd h h1)
  have hr1' := hr1.here
  have hr2' := hr2.here
  obtain ⟨k1, ns1, nl1, s1, A1, n1, c01, A1', n1', c01', rfl⟩ := hr1.cells
  obtain ⟨k2, ns2, nl2, s2, A2, n2, c02, A2', n2', c02', rfl⟩ := hr2.cells
  obtain ⟨w1, hw1, S1, S2, hsz', hb1⟩ := alloc2_facts w (.cells #[.int .i64 k1, .string ns1, .string nl1, .string s1, .slice A1 n1 c01, .slice A1' n1' c01'] 28) (.cells #[.int .i64 k2, .string ns2, .string nl2, .string s2, .slice A2 n2 c02, .slice A2' n2' c02'] 28)
  have hsz : w.heap.size < w1.heap.size := by omega
  have HR1 := Lib.hid (hr1'.below hb1); have HR2 := Lib.hid (hr2'.below hb1)
  obtain ⟨p0, p1, p2, p3, p4, p5⟩ := blk6 S1
  obtain ⟨q0, q1, q2, q3, q4, q5⟩ := blk6 S2
  clear S1 S2 hr1 hr1' hr2 hr2' he0 he1 he2
  by_cases he : e0 = 0
  · have HZ0 := Lib.hid (HZ.out he)
    subst he
    have hcc : ((0 : Int) == 0) = true := rfl
    have HX : Hid (∀ v, askF 0 v = v) := Lib.hid fun v => if_pos rfl
    clear HZ HN
    go_enter Tryz.func31, Tryz.ntmps31
    go_wp2_with fail
    refine (H2.out w1 _ _ HR1.out HR2.out).mono ?_
    rintro e w2 ⟨rfl, hb2⟩
    obtain ⟨hc2, hf2⟩ := bcell hb2
    go_wp2_with fail
    refine (refsome_any 3 c2 c1 _ _ w2 _ _ (HR2.out.below (hb2.mono (by omega))) (HR1.out.below (hb2.mono (by omega))) HZ0.out).mono ?_
    rw [HSV.out]
    rintro e w3 ⟨rfl, hb3⟩
    go_wp2_with fail
    go_ret2
    exact ⟨by rw [HX.out]; rfl, hb1.seq (hb2.seq hb3)⟩
  · have hcc : (e0 == 0) = false := by simpa using he
    have HX : Hid (∀ v, askF e0 v = false) := Lib.hid fun v => if_neg he
    clear he HZ HN
    go_enter Tryz.func31, Tryz.ntmps31
    go_wp2_with fail
    refine (H2.out w1 _ _ HR1.out HR2.out).mono ?_
    rintro e w2 ⟨rfl, hb2⟩
    go_wp2_with fail
    go_ret2
    exact ⟨by rw [HX.out]; rfl, hb1.seq hb2⟩
set_option maxHeartbeats 1000000 in
set_option maxRecDepth 100000 in
theorem refOverlap_any (c1 c2 : Cls) (cs1 cs2 : List Value) (w : World) (F1 F2 : Nat → Prop) (hr1 : RepC w F1 c1 cs1) (hr2 : RepC w F2 c2 cs2) (hn : chkR c1 = 0 → chkR c2 = 0 → numL [c1, c2] < 1000) :
    Calls Tryz.prog 33 #[.agg cs1.toArray, .agg cs2.toArray] w fun e w' => e = .returned (.tuple #[.bool (askF (orE (chkR c1) (chkR c2)) ((someF (fHow 2 c1 c2) (addL [c1, c2] ([], []))))), .int .i64 (orE (chkR c1) (chkR c2))]) ∧ Below w.heap.size w w' := by
  obtain ⟨sv, hsv⟩ : ∃ sv, (someF (fHow 2 c1 c2) (addL [c1, c2] ([], []))) = sv := ⟨_, rfl⟩
  rw [hsv]
  have HSV := Lib.hid hsv; have HN := Lib.hid hn
  clear hsv hn
  obtain ⟨e1, he1⟩ : ∃ e1, chkR c1 = e1 := ⟨_, rfl⟩
  obtain ⟨e2, he2⟩ : ∃ e2, chkR c2 = e2 := ⟨_, rfl⟩
  rw [he1, he2]
  obtain ⟨e0, he0⟩ : ∃ e0, orE e1 e2 = e0 := ⟨_, rfl⟩
  have H2 : Hid (∀ W F1 F2, RepC W F1 c1 cs1 → RepC W F2 c2 cs2 → Calls Tryz.prog 68 #[.agg cs1.toArray, .agg cs2.toArray] W fun e w' => e = .returned (.int .i64 e0) ∧ Below W.heap.size W w') := Lib.hid fun W F1 F2 h1 h2 => by
    rw [← he0]; exact two_val c1 c2 _ _ W F1 F2 h1 h2 he1 he2
  rw [he0]
  have HZ : Hid (e0 = 0 → numL [c1, c2] < 1000) := Lib.hid (by
    intro h
    rw [← he0] at h
    unfold orE at h
    by_cases h1 : e1 = 0
    · rw [if_pos h1] at h; exact HN.out (he1.trans h1) (he2.trans h)
    · rw [if_neg h1] at h; exact absurd h h1)
  have hr1' := hr1.here
  have hr2' := hr2.here
  obtain ⟨k1, ns1, nl1, s1, A1, n1, c01, A1', n1', c01', rfl⟩ := hr1.cells
  obtain ⟨k2, ns2, nl2, s2, A2, n2, c02, A2', n2', c02', rfl⟩ := hr2.cells
  obtain ⟨w1, hw1, S1, S2, hsz', hb1⟩ := alloc2_facts w (.cells #[.int .i64 k1, .string ns1, .string nl1, .string s1, .slice A1 n1 c01, .slice A1' n1' c01'] 28) (.cells #[.int .i64 k2, .string ns2, .string nl2, .string s2, .slice A2 n2 c02, .slice A2' n2' c02'] 28)
  have hsz : w.heap.size < w1.heap.size := by omega
  have HR1 := Lib.hid (hr1'.below hb1); have HR2 := Lib.hid (hr2'.below hb1)
  obtain ⟨p0, p1, p2, p3, p4, p5⟩ := blk6 S1
  obtain ⟨q0, q1, q2, q3, q4, q5⟩ := blk6 S2
  clear S1 S2 hr1 hr1' hr2 hr2' he0 he1 he2
  by_cases he : e0 = 0
  · have HZ0 := Lib.hid (HZ.out he)
    subst he
    have hcc : ((0 : Int) == 0) = true := rfl
    have HX : Hid (∀ v, askF 0 v = v) := Lib.hid fun v => if_pos rfl
    clear HZ HN
    go_enter Tryz.func33, Tryz.ntmps33
    go_wp2_with fail
    refine (H2.out w1 _ _ HR1.out HR2.out).mono ?_
    rintro e w2 ⟨rfl, hb2⟩
    obtain ⟨hc2, hf2⟩ := bcell hb2
    go_wp2_with fail
    refine (refsome_any 2 c1 c2 _ _ w2 _ _ (HR1.out.below (hb2.mono (by omega))) (HR2.out.below (hb2.mono (by omega))) HZ0.out).mono ?_
    rw [HSV.out]
    rintro e w3 ⟨rfl, hb3⟩
    go_wp2_with fail
    go_ret2
    exact ⟨by rw [HX.out]; rfl, hb1.seq (hb2.seq hb3)⟩
  · have hcc : (e0 == 0) = false := by simpa using he
    have HX : Hid (∀ v, askF e0 v = false) := Lib.hid fun v => if_neg he
    clear he HZ HN
    go_enter Tryz.func33, Tryz.ntmps33
    go_wp2_with fail
    refine (H2.out w1 _ _ HR1.out HR2.out).mono ?_
    rintro e w2 ⟨rfl, hb2⟩
    go_wp2_with fail
    go_ret2
    exact ⟨by rw [HX.out]; rfl, hb1.seq hb2⟩
end Go.Proofs.YtfildbkkmnfekaaGreatDoor
namespace Go.Proofs.YtfildbkkmnfekaaGreatDoor
open Go.RowKit

def zeroN : Nm := (⟨#[]⟩, ⟨#[]⟩)
/-- The first of some names that serves, and the error. -/
def firstN (g : Nm → Bool) : List Nm → Nm × Int
  | [] => (zeroN, 4)
  | x :: l => if g x then (x, 0) else firstN g l
theorem firstN_step {g : Nm → Bool} {l : List Nm} {i : Nat} {x : Nm} (h : l[i]? = some x) : firstN g (l.drop i) = if g x then (x, 0) else firstN g (l.drop (i + 1)) := by
  obtain ⟨hi, rfl⟩ := List.getElem?_eq_some_iff.1 h
  rw [List.drop_eq_getElem_cons hi, firstN]
def witG (e : Int) (r : Nm × Int) : Nm × Int := if e = 0 then r else (zeroN, e)
theorem frzA {w : World} {g : Nat} {t : TypeId} {v0 v1 : Value} (h : w.heap[g]? = some (.cells #[v0, v1] t)) : w.frozen? ⟨g, 0, none⟩ = false ∧ w.frozen? ⟨g, 1, none⟩ = false := ⟨frozen_of_row w g 0 _ _ h, frozen_of_row w g 1 _ _ h⟩
theorem setA_facts {w : World} {g : Nat} {t : TypeId} {u0 u1 : Value} (v0 v1 : Value) (h : w.heap[g]? = some (.cells #[u0, u1] t)) :
    ∃ wf, (w.setCell ⟨g, 0, none⟩ v0).setCell ⟨g, 1, none⟩ v1 = wf ∧ wf.heap[g]? = some (.cells #[v0, v1] t) ∧ (∀ {B : Nat} {a : World}, Below B a w → B ≤ g → Below B a wf) ∧ (∀ b, b ≠ g → wf.heap[b]? = w.heap[b]?) ∧ wf.heap.size = w.heap.size :=
  ⟨_, rfl, hp_set2_1 (hp_set2_0 h), fun hb hg => (hb.setCell (p := ⟨g, 0, none⟩) hg _).setCell (p := ⟨g, 1, none⟩) hg _, fun b hb => by rw [Below.heap_setCell _ _ _ _ hb, Below.heap_setCell _ _ _ _ hb], by simp [World.setCell]⟩
set_option maxHeartbeats 4000000 in
set_option maxRecDepth 100000 in
theorem refWitness_any (c1 : Cls) (cs1 : List Value) (av : List Nm) (A : Option Addr) (n c : Nat) (w : World) (F1 F2 : Nat → Prop) (hr1 : RepC w F1 c1 cs1) (hav0 : RowV w F2 2 nmV av A n) (hn : n < 1000) (hnum : chkR c1 = 0 → numL [c1] < 1000) :
    Calls Tryz.prog 35 #[.agg cs1.toArray, .slice A n c] w fun e w' => e = .returned (.tuple #[.agg #[.string (witG (chkR c1) (firstN (fun x => inC c1 x.1 x.2 && !inNs av x.1 x.2) (candN (addL [c1] ([], [])) av))).1.1, .string (witG (chkR c1) (firstN (fun x => inC c1 x.1 x.2 && !inNs av x.1 x.2) (candN (addL [c1] ([], [])) av))).1.2], .int .i64 (witG (chkR c1) (firstN (fun x => inC c1 x.1 x.2 && !inNs av x.1 x.2) (candN (addL [c1] ([], [])) av))).2]) ∧ Below w.heap.size w w' := by
  obtain ⟨g, hg⟩ : ∃ g : Nm → Bool, (fun x => inC c1 x.1 x.2 && !inNs av x.1 x.2) = g := ⟨_, rfl⟩
  obtain ⟨m, hm⟩ : ∃ m, addL [c1] ([], []) = m := ⟨_, rfl⟩
  have hlen := addL_len [c1] ([], [])
  rw [hm] at hlen
  rw [hg, hm]
  obtain ⟨e0, he0⟩ : ∃ e0, chkR c1 = e0 := ⟨_, rfl⟩
  rw [he0] at hnum ⊢
  obtain ⟨L, hL⟩ : ∃ L, candN m av = L := ⟨_, rfl⟩
  rw [hL]
  obtain ⟨R, hR⟩ : ∃ R, firstN g L = R := ⟨_, rfl⟩
  rw [hR]
  have HL : Hid (e0 = 0 → L.length < 3000) := Lib.hid (by intro h; rw [← hL, candN_len]; have := hnum h; simp at hlen; omega)
  have HG : Hid (∀ x, g x = (inC c1 x.1 x.2 && !inNs av x.1 x.2)) := Lib.hid (by intro x; rw [← hg])
  have HE := Lib.hid he0; have HM0 := Lib.hid hm; have HLL := Lib.hid hL; have HR := Lib.hid hR; have HN := Lib.hid hnum
  have hr1' := hr1.here
  have hav := hav0.here nmV_ne
  obtain ⟨k1, ns1, nl1, s1, A1, n1, c01, A1', n1', c01', rfl⟩ := hr1.cells
  obtain ⟨w1, hw1, S1, S3, hsz, hb1⟩ := alloc2_facts w (.cells #[.int .i64 k1, .string ns1, .string nl1, .string s1, .slice A1 n1 c01, .slice A1' n1' c01'] 28) (.cells #[.string ⟨#[]⟩, .string ⟨#[]⟩] 24)
  have HR1 := Lib.hid (hr1'.below hb1); have HAV := Lib.hid (hav.below hb1); have HS1 := Lib.hid S1; have HS3 := Lib.hid S3
  obtain ⟨p0, p1, p2, p3, p4, p5⟩ := blk6 S1
  have hsz0 : w.heap.size < w1.heap.size := by omega
  clear S1 S3 hr1 hr1' hav0 hav he0 hm hL hR hg hlen hnum
  by_cases he : e0 = 0
  · have HL0 := Lib.hid (HL.out he); have HN0 := Lib.hid (HN.out he)
    subst he
    have hcc : ((0 : Int) != 0) = false := rfl
    have HX : Hid (witG 0 R = R) := Lib.hid (if_pos rfl)
    clear HL HN
    go_enter Tryz.func35, Tryz.ntmps35
    go_wp2_with fail
    refine (refcheck_val c1 _ w1 _ HR1.out HE.out).mono ?_
    rintro e w2 ⟨rfl, hb2⟩
    clear p0 p1 p2 p3 p4 p5
    obtain ⟨p0, p1, p2, p3, p4, p5⟩ := blk6 (hp_below HS1.out hb2)
    obtain ⟨w3, hw3, S4, hsz3, hb3⟩ := alloc_facts w2 (.cells #[.int .i64 k1, .string ns1, .string nl1, .string s1, .slice A1 n1 c01, .slice A1' n1' c01'] 28)
    have hb13 := hb2.seq hb3
    have hs2 := hb2.size
    have HS4 := Lib.hid S4
    clear S4
    go_wp2_with fail
    refine (refcand_any [c1] (some ⟨w2.heap.size, 0, none⟩) 1 1 av A n c w3 (· < w3.heap.size) _ (RowL.one ((HR1.out.below (hb13.mono (by omega))).wide (fun b h _ => by omega)) HS4.out hsz3) (HAV.out.below (hb13.mono (by omega))) (by omega) (by omega) (by have := HN0.out; omega)).mono ?_
    rw [HM0.out, HLL.out]
    rintro e w4 ⟨v, rfl, hov, hb4⟩
    obtain ⟨B, d, rfl, hrow, hcap, hcm⟩ := hov.row nm_len (by decide)
    have HROW := Lib.hid (hrow.here nmV_ne)
    obtain ⟨nn, hnn⟩ : ∃ nn, L.length = nn := ⟨_, rfl⟩
    have HNN := Lib.hid hnn
    rw [hnn] at hcap HROW ⊢
    have hnb : nn < 3000 := by have := HL0.out; omega
    have hb14 := hb13.seq hb4
    clear hov hrow p0 p1 p2 p3 p4 p5 hnn hw3
    go_wp2_with fail
    go_loopw [8] (fun s8 wr => ∃ i : Nat, i ≤ nn ∧ s8 = .int .i64 i ∧ Hid (firstN g (L.drop i) = R) ∧ Below w4.heap.size w4 wr)
      (fun s8 _ => nn - (intOf s8).toNat)
    case atStart => exact ⟨0, by omega, rfl, by simpa using HR, Below.refl _ _⟩
    case round =>
      obtain ⟨i, hi, rfl, HA, hbr⟩ := hrel
      have hb1r := hb14.trans (hbr.mono hb14.size)
      have hszr := hb1r.size
      by_cases hlt : i < nn
      · obtain ⟨b', off, a, b, HXi, x0, x1, hix⟩ := (HROW.out.below hbr).name hlt d
        have hd : decide (i < nn) = true := by simp; omega
        obtain ⟨p0, p1, p2, p3, p4, p5⟩ := blk6 (hp_below HS1.out hb1r)
        have HST := Lib.hid (firstN_step (g := g) HXi.out)
        obtain ⟨v1, hv1⟩ : ∃ v1, inC c1 a b = v1 := ⟨_, rfl⟩
        obtain ⟨v2, hv2⟩ : ∃ v2, inNs av a b = v2 := ⟨_, rfl⟩
        have HV1 := Lib.hid hv1; have HV2 := Lib.hid hv2
        have HGV : Hid (g (a, b) = (v1 && !v2)) := Lib.hid (by rw [HG.out, hv1, hv2])
        have C48 : Hid (∀ W, RepC W (· < w.heap.size) c1 [.int .i64 k1, .string ns1, .string nl1, .string s1, .slice A1 n1 c01, .slice A1' n1' c01'] → Calls Tryz.prog 48 #[.agg #[.int .i64 k1, .string ns1, .string nl1, .string s1, .slice A1 n1 c01, .slice A1' n1' c01'], .agg #[.string a, .string b]] W fun e w' => e = .returned (.bool v1) ∧ Below W.heap.size W w') := Lib.hid fun W h => in_val a b c1 _ W _ h HV1.out
        have C71 : Hid (∀ W, RowV W (· < w.heap.size) 2 nmV av A n → Calls Tryz.prog 71 #[.slice A n c, .agg #[.string a, .string b]] W fun e w' => e = .returned (.bool v2) ∧ Below W.heap.size W w') := Lib.hid fun W h => refhas_val a b av A n c W _ h (by omega) HV2.out
        clear hv1 hv2
        go_wp2_with fail
        have sk0 := Since.cell p0
        have sk1 := Since.cell p1
        have sk2 := Since.cell p2
        have sk3 := Since.cell p3
        have sk4 := Since.cell p4
        have sk5 := Since.cell p5
        have sx0 := Since.cell x0
        have sx1 := Since.cell x1
        have KR : Hid (∀ p : Since wr, RepC p.wld (· < w.heap.size) c1 _ ∧ RowV p.wld (· < w.heap.size) 2 nmV av A n) := Lib.hid fun p => ⟨(HR1.out.below (hb1r.mono (by omega))).below (p.below.mono (by omega)), (HAV.out.below (hb1r.mono (by omega))).below (p.below.mono (by omega))⟩
        cases v1
        · refine wp_region_since (by kernel_rfl) (by kernel_rfl) ?_
          repeat (quiet_step (first
            | (go_at_call 48; exact since_of (C48.out _ (KR.out _).1))
            | (go_at_call 71; exact since_of (C71.out _ (KR.out _).2))))
          refine wpQuiet_nil ?_
          intro wq hq
          have hbq := since_below hq
          have hbrq := hbr.trans (hbq.mono hbr.size)
          clear hq KR sx0 sx1
          clear sk0 sk1 sk2 sk3 sk4 sk5
          clear x0 x1 p0 p1 p2 p3 p4 p5
          go_wp2_with fail
          go_roundw
          case rel => exact ⟨i + 1, by omega, by go_num, Lib.hid (by have h := HA.out; rw [HST.out, HGV.out] at h; exact h), hbrq⟩
          case measure => simp [intOf]; omega
        · cases v2
          · refine wp_region_since (by kernel_rfl) (by kernel_rfl) ?_
            repeat (quiet_step (first
              | (go_at_call 48; exact since_of (C48.out _ (KR.out _).1))
              | (go_at_call 71; exact since_of (C71.out _ (KR.out _).2))))
            refine wpQuiet_nil ?_
            intro wq hq
            have hbq := since_below hq
            have hbrq := hbr.trans (hbq.mono hbr.size)
            clear hq KR sx0 sx1
            clear sk0 sk1 sk2 sk3 sk4 sk5
            obtain ⟨y0, y1⟩ : wq.cell? ⟨b', off + i * 2, none⟩ = some (.string a) ∧ wq.cell? ⟨b', off + i * 2 + 1, none⟩ = some (.string b) := ⟨(hbq.cell (World.block_lt_of_cell? wr _ x0)).trans x0, (hbq.cell (World.block_lt_of_cell? wr _ x1)).trans x1⟩
            clear x0 x1 p0 p1 p2 p3 p4 p5
            have hb1q := hb14.trans (hbrq.mono hb14.size)
            have SR := hp_below HS3.out hb1q
            obtain ⟨f0, f1⟩ := frzA SR
            obtain ⟨t0, t1⟩ := blk2 SR
            have HRR : Hid (R = ((a, b), 0)) := Lib.hid (by have h := HA.out; rw [HST.out, HGV.out] at h; rw [← h]; rfl)
            obtain ⟨wf, hwf, Sf, Hf, -, -⟩ := setA_facts (.string a) (.string b) SR
            have hbf : Below w.heap.size w wf := Hf (hb1.trans (hb1q.mono (by omega))) (by omega)
            obtain ⟨g0, g1⟩ := blk2 Sf
            clear Sf SR Hf
            go_wp2_with fail
            (try simp only [Exit.inBlock, Exit.then])
            refine bodyPost_ret (v := .tuple #[.agg #[.string a, .string b], .int .i64 0]) (by simp [results, Tryz.results35, go_sem, g0, g1]) rfl ?_
            exact ⟨by rw [HX.out, HRR.out], hbf⟩
          · refine wp_region_since (by kernel_rfl) (by kernel_rfl) ?_
            repeat (quiet_step (first
              | (go_at_call 48; exact since_of (C48.out _ (KR.out _).1))
              | (go_at_call 71; exact since_of (C71.out _ (KR.out _).2))))
            refine wpQuiet_nil ?_
            intro wq hq
            have hbq := since_below hq
            have hbrq := hbr.trans (hbq.mono hbr.size)
            clear hq KR sx0 sx1
            clear sk0 sk1 sk2 sk3 sk4 sk5
            clear x0 x1 p0 p1 p2 p3 p4 p5
            go_wp2_with fail
            go_roundw
            case rel => exact ⟨i + 1, by omega, by go_num, Lib.hid (by have h := HA.out; rw [HST.out, HGV.out] at h; exact h), hbrq⟩
            case measure => simp [intOf]; omega
      · have hd : decide (i < nn) = false := by simp; omega
        have HRR : Hid (R = (zeroN, 4)) := Lib.hid (by have h := HA.out; rw [List.drop_eq_nil_of_le (by have := HNN.out; omega)] at h; rw [← h]; rfl)
        have SR := hp_below HS3.out hb1r
        obtain ⟨f0, f1⟩ := frzA SR
        obtain ⟨t0, t1⟩ := blk2 SR
        obtain ⟨wf, hwf, Sf, Hf, -, -⟩ := setA_facts (.string ⟨#[]⟩) (.string ⟨#[]⟩) SR
        have hbf : Below w.heap.size w wf := Hf (hb1.trans (hb1r.mono (by omega))) (by omega)
        obtain ⟨g0, g1⟩ := blk2 Sf
        clear Sf SR Hf
        go_wp2_with fail
        (try simp only [Exit.inBlock, Exit.then])
        refine bodyPost_ret (v := .tuple #[.agg #[.string ⟨#[]⟩, .string ⟨#[]⟩], .int .i64 4]) (by simp [results, Tryz.results35, go_sem, g0, g1]) rfl ?_
        exact ⟨by rw [HX.out, HRR.out]; rfl, hbf⟩
  · have hcc : (e0 != 0) = true := by simpa using he
    have HX : Hid (witG e0 R = (zeroN, e0)) := Lib.hid (if_neg he)
    clear he HL HN
    go_enter Tryz.func35, Tryz.ntmps35
    go_wp2_with fail
    refine (refcheck_val c1 _ w1 _ HR1.out HE.out).mono ?_
    rintro e w2 ⟨rfl, hb2⟩
    have SR := hp_below HS3.out hb2
    obtain ⟨f0, f1⟩ := frzA SR
    obtain ⟨t0, t1⟩ := blk2 SR
    obtain ⟨wf, hwf, Sf, Hf, -, -⟩ := setA_facts (.string ⟨#[]⟩) (.string ⟨#[]⟩) SR
    have hbf : Below w.heap.size w wf := Hf (hb1.seq hb2) (by omega)
    obtain ⟨g0, g1⟩ := blk2 Sf
    clear Sf SR Hf
    go_wp2_with fail
    (try simp only [Exit.inBlock, Exit.then])
    refine bodyPost_ret (v := .tuple #[.agg #[.string ⟨#[]⟩, .string ⟨#[]⟩], .int .i64 e0]) (by simp [results, Tryz.results35, go_sem, g0, g1]) rfl ?_
    exact ⟨by rw [HX.out]; rfl, hbf⟩
theorem firstN_witF (g : Nm → Bool) : ∀ l, firstN g l = witF g l
  | [] => rfl
  | x :: l => by
    rw [firstN, firstN_witF g l]
    unfold witF
    rw [List.find?_cons]
    cases h : g x <;> simp
theorem witG_witR (c : Cls) (av : List Nm) : witG (chkR c) (firstN (fun x => inC c x.1 x.2 && !inNs av x.1 x.2) (candN (addL [c] ([], [])) av)) = witR c av := by
  rw [firstN_witF]; rfl
theorem refWitness_val (c1 : Cls) (cs1 : List Value) (av : List Nm) (A : Option Addr) (n c : Nat) (w : World) (F1 F2 : Nat → Prop) (hr1 : RepC w F1 c1 cs1) (hav0 : RowV w F2 2 nmV av A n) (hn : n < 1000) (hnum : chkR c1 = 0 → numL [c1] < 1000) :
    Calls Tryz.prog 35 #[.agg cs1.toArray, .slice A n c] w fun e w' => e = .returned (.tuple #[.agg #[.string (witR c1 av).1.1, .string (witR c1 av).1.2], .int .i64 (witR c1 av).2]) ∧ Below w.heap.size w w' := by
  rw [← witG_witR]; exact refWitness_any c1 cs1 av A n c w F1 F2 hr1 hav0 hn hnum
end Go.Proofs.YtfildbkkmnfekaaGreatDoor
