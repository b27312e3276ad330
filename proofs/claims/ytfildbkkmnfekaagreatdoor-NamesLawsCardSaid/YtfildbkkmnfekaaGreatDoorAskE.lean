/- gabaritref01's Empty, Includes, Overlap. names.some. names' Empty, Includes, Overlap. -/
import Derived.Test.YtfildbkkmnfekaaGreatDoorG39
import Derived.Test.YtfildbkkmnfekaaGreatDoorComb
import Derived.Test.YtfildbkkmnfekaaGreatDoorG33
import Derived.Test.YtfildbkkmnfekaaGreatDoorSince
import Derived.WalkKit
import Derived.WalkSpells
import Derived.WalkLawsBesides
import Derived.BigGuardPart
import Derived.Lib.Hide
import Derived.Deep.QuietTactic
import Derived.BigQuiet
import Derived.StillTailTactics
import Derived.Deep.DeepCutAuto
import Derived.Deep.CutBlock
import Derived.Laws.EntriesVeiled
import Derived.RangeFuncNested
import Derived.RangeFuncBound
import Derived.RangeFuncCalls
import Derived.RangeFuncLeaves
import Derived.Shelf.Abstract
import Derived.Shelf.RegionOpen
import Derived.OwnWalkIn
import Derived.TacticsInMore
import Derived.LoopNIn
import Derived.LoopIn
import Derived.Deep.DeepFit
import Derived.Lib.AppendIntMem
import Derived.Sort.QuietTacIn
import Derived.Sort.QuietThIn
namespace Go.Proofs.YtfildbkkmnfekaaGreatDoor
open Go.RowKit

/-- A yes or no, if there is no error. -/
def askF (e : Int) (v : Bool) : Bool := if e = 0 then v else false
set_option maxHeartbeats 1000000 in
set_option maxRecDepth 100000 in
theorem refEmpty_any (c1 : Cls) (cs1 : List Value) (w : World) (F1 : Nat → Prop) (hr1 : RepC w F1 c1 cs1) (hn : chkR c1 = 0 → numL [c1, c1] < 1000) :
    Calls Tryz.prog 29 #[.agg cs1.toArray] w fun e w' => e = .returned (.tuple #[.bool (askF (chkR c1) (!(someF (fHow 0 c1 c1) (addL [c1, c1] ([], []))))), .int .i64 (chkR c1)]) ∧ Below w.heap.size w w' := by
  obtain ⟨sv, hsv⟩ : ∃ sv, (someF (fHow 0 c1 c1) (addL [c1, c1] ([], []))) = sv := ⟨_, rfl⟩
  rw [hsv]
  have HSV := Lib.hid hsv; have HN := Lib.hid hn
  clear hsv hn
  obtain ⟨e0, he0⟩ : ∃ e0, chkR c1 = e0 := ⟨_, rfl⟩
  have HE := Lib.hid he0
  rw [he0]
  have HZ : Hid (e0 = 0 → numL [c1, c1] < 1000) := Lib.hid (by intro h; exact HN.out (he0.trans h))
  have hr1' := hr1.here
  obtain ⟨k1, ns1, nl1, s1, A1, n1, c01, A1', n1', c01', rfl⟩ := hr1.cells
  obtain ⟨w1, hw1, S1, hsz, hb1⟩ := alloc_facts w (.cells #[.int .i64 k1, .string ns1, .string nl1, .string s1, .slice A1 n1 c01, .slice A1' n1' c01'] 28)
  have HR1 := Lib.hid (hr1'.below hb1)
  obtain ⟨p0, p1, p2, p3, p4, p5⟩ := blk6 S1
  clear S1 hr1 hr1' he0
  by_cases he : e0 = 0
  · have HZ0 := Lib.hid (HZ.out he)
    subst he
    have hcc : ((0 : Int) == 0) = true := rfl
    have HX : Hid (∀ v, askF 0 v = v) := Lib.hid fun v => if_pos rfl
    clear HZ HN
    go_enter Tryz.func29, Tryz.ntmps29
    go_wp2_with fail
    refine (refcheck_val c1 _ w1 _ HR1.out HE.out).mono ?_
    rintro e w2 ⟨rfl, hb2⟩
    obtain ⟨hc2, hf2⟩ := bcell hb2
    go_wp2_with fail
    refine (refsome_any 0 c1 c1 _ _ w2 _ _ (HR1.out.below (hb2.mono (by omega))) (HR1.out.below (hb2.mono (by omega))) HZ0.out).mono ?_
    rw [HSV.out]
    rintro e w3 ⟨rfl, hb3⟩
    go_wp2_with fail
    go_ret2
    exact ⟨by rw [HX.out]; rfl, hb1.seq (hb2.seq hb3)⟩
  · have hcc : (e0 == 0) = false := by simpa using he
    have HX : Hid (∀ v, askF e0 v = false) := Lib.hid fun v => if_neg he
    clear he HZ HN
    go_enter Tryz.func29, Tryz.ntmps29
    go_wp2_with fail
    refine (refcheck_val c1 _ w1 _ HR1.out HE.out).mono ?_
    rintro e w2 ⟨rfl, hb2⟩
    go_wp2_with fail
    go_ret2
    exact ⟨by rw [HX.out]; rfl, hb1.seq hb2⟩
set_option maxHeartbeats 1000000 in
set_option maxRecDepth 100000 in
theorem refIncludes_any (c1 c2 : Cls) (cs1 cs2 : List Value) (w : World) (F1 F2 : Nat → Prop) (hr1 : RepC w F1 c1 cs1) (hr2 : RepC w F2 c2 cs2) (hn : chkR c1 = 0 → chkR c2 = 0 → numL [c2, c1] < 1000) :
    Calls Tryz.prog 31 #[.agg cs1.toArray, .agg cs2.toArray] w fun e w' => e = .returned (.tuple #[.bool (askF (orE (chkR c1) (chkR c2)) (!(someF (fHow 3 c2 c1) (addL [c2, c1] ([], []))))), .int .i64 (orE (chkR c1) (chkR c2))]) ∧ Below w.heap.size w w' := by
  obtain ⟨sv, hsv⟩ : ∃ sv, (someF (fHow 3 c2 c1) (addL [c2, c1] ([], []))) = sv := ⟨_, rfl⟩
  rw [hsv]
  have HSV := Lib.hid hsv; have HN := Lib.hid hn
  clear hsv hn
  obtain ⟨e1, he1⟩ : ∃ e1, chkR c1 = e1 := ⟨_, rfl⟩
  obtain ⟨e2, he2⟩ : ∃ e2, chkR c2 = e2 := ⟨_, rfl⟩
  rw [he1, he2]
  obtain ⟨e0, he0⟩ : ∃ e0, orE e1 e2 = e0 := ⟨_, rfl⟩
  have H2 : Hid (∀ W F1 F2, RepC W F1 c1 cs1 → RepC W F2 c2 cs2 → Calls Tryz.prog 68 #[.agg cs1.toArray, .agg cs2.toArray] W fun e w' => e = .returned (.int .i64 e0) ∧ Below W.heap.size W w') := Lib.hid fun W F1 F2 h1 h2 => by
    rw [← he0]; exact two_val c1 c2 _ _ W F1 F2 h1 h2 he1 he2
  rw [he0]
  have HZ : Hid (e0 = 0 → numL [c2, c1] < 1000) := Lib.hid (by
    intro h
    rw [← he0] at h
    unfold orE at h
    by_cases h1 : e1 = 0
    · rw [if_pos h1] at h; exact HN.out (he1.trans h1) (he2.trans h)
    · rw [if_neg h1] at h; exact absurd h h1)
  have hr1' := hr1.here
  have hr2' := hr2.here
  obtain ⟨k1, ns1, nl1, s1, A1, n1, c01, A1', n1', c01', rfl⟩ := hr1.cells
  obtain ⟨k2, ns2, nl2, s2, A2, n2, c02, A2', n2', c02', rfl⟩ := hr2.cells
  obtain ⟨w1, hw1, S1, S2, hsz', hb1⟩ := alloc2_facts w (.cells #[.int .i64 k1, .string ns1, .string nl1, .string s1, .slice A1 n1 c01, .slice A1' n1' c01'] 28) (.cells #[.int .i64 k2, .string ns2, .string nl2, .string s2, .slice A2 n2 c02, .slice A2' n2' c02'] 28)
  have hsz : w.heap.size < w1.heap.size := by omega
  have HR1 := Lib.hid (hr1'.below hb1); have HR2 := Lib.hid (hr2'.below hb1)
  obtain ⟨p0, p1, p2, p3, p4, p5⟩ := blk6 S1
  obtain ⟨q0, q1, q2, q3, q4, q5⟩ := blk6 S2
  clear S1 S2 hr1 hr1' hr2 hr2' he0 he1 he2
  by_cases he : e0 = 0
  · have HZ0 := Lib.hid (HZ.out he)
    subst he
    have hcc : ((0 : Int) == 0) = true := rfl
    have HX : Hid (∀ v, askF 0 v = v) := Lib.hid fun v => if_pos rfl
    clear HZ HN
    go_enter Tryz.func31, Tryz.ntmps31
    go_wp2_with fail
    refine (H2.out w1 _ _ HR1.out HR2.out).mono ?_
    rintro e w2 ⟨rfl, hb2⟩
    obtain ⟨hc2, hf2⟩ := bcell hb2
    go_wp2_with fail
    refine (refsome_any 3 c2 c1 _ _ w2 _ _ (HR2.out.below (hb2.mono (by omega))) (HR1.out.below (hb2.mono (by omega))) HZ0.out).mono ?_
    rw [HSV.out]
    rintro e w3 ⟨rfl, hb3⟩
    go_wp2_with fail
    go_ret2
    exact ⟨by rw [HX.out]; rfl, hb1.seq (hb2.seq hb3)⟩
  · have hcc : (e0 == 0) = false := by simpa using he
    have HX : Hid (∀ v, askF e0 v = false) := Lib.hid fun v => if_neg he
    clear he HZ HN
    go_enter Tryz.func31, Tryz.ntmps31
    go_wp2_with fail
    refine (H2.out w1 _ _ HR1.out HR2.out).mono ?_
    rintro e w2 ⟨rfl, hb2⟩
    go_wp2_with fail
    go_ret2
    exact ⟨by rw [HX.out]; rfl, hb1.seq hb2⟩
set_option maxHeartbeats 1000000 in
set_option maxRecDepth 100000 in
theorem refOverlap_any (c1 c2 : Cls) (cs1 cs2 : List Value) (w : World) (F1 F2 : Nat → Prop) (hr1 : RepC w F1 c1 cs1) (hr2 : RepC w F2 c2 cs2) (hn : chkR c1 = 0 → chkR c2 = 0 → numL [c1, c2] < 1000) :
    Calls Tryz.prog 33 #[.agg cs1.toArray, .agg cs2.toArray] w fun e w' => e = .returned (.tuple #[.bool (askF (orE (chkR c1) (chkR c2)) ((someF (fHow 2 c1 c2) (addL [c1, c2] ([], []))))), .int .i64 (orE (chkR c1) (chkR c2))]) ∧ Below w.heap.size w w' := by
  obtain ⟨sv, hsv⟩ : ∃ sv, (someF (fHow 2 c1 c2) (addL [c1, c2] ([], []))) = sv := ⟨_, rfl⟩
  rw [hsv]
  have HSV := Lib.hid hsv; have HN := Lib.hid hn
  clear hsv hn
  obtain ⟨e1, he1⟩ : ∃ e1, chkR c1 = e1 := ⟨_, rfl⟩
  obtain ⟨e2, he2⟩ : ∃ e2, chkR c2 = e2 := ⟨_, rfl⟩
  rw [he1, he2]
  obtain ⟨e0, he0⟩ : ∃ e0, orE e1 e2 = e0 := ⟨_, rfl⟩
  have H2 : Hid (∀ W F1 F2, RepC W F1 c1 cs1 → RepC W F2 c2 cs2 → Calls Tryz.prog 68 #[.agg cs1.toArray, .agg cs2.toArray] W fun e w' => e = .returned (.int .i64 e0) ∧ Below W.heap.size W w') := Lib.hid fun W F1 F2 h1 h2 => by
    rw [← he0]; exact two_val c1 c2 _ _ W F1 F2 h1 h2 he1 he2
  rw [he0]
  have HZ : Hid (e0 = 0 → numL [c1, c2] < 1000) := Lib.hid (by
    intro h
    rw [← he0] at h
    unfold orE at h
    by_cases h1 : e1 = 0
    · rw [if_pos h1] at h; exact HN.out (he1.trans h1) (he2.trans h)
    · rw [if_neg h1] at h; exact absurd h h1)
  have hr1' := hr1.here
  have hr2' := hr2.here
  obtain ⟨k1, ns1, nl1, s1, A1, n1, c01, A1', n1', c01', rfl⟩ := hr1.cells
  obtain ⟨k2, ns2, nl2, s2, A2, n2, c02, A2', n2', c02', rfl⟩ := hr2.cells
  obtain ⟨w1, hw1, S1, S2, hsz', hb1⟩ := alloc2_facts w (.cells #[.int .i64 k1, .string ns1, .string nl1, .string s1, .slice A1 n1 c01, .slice A1' n1' c01'] 28) (.cells #[.int .i64 k2, .string ns2, .string nl2, .string s2, .slice A2 n2 c02, .slice A2' n2' c02'] 28)
  have hsz : w.heap.size < w1.heap.size := by omega
  have HR1 := Lib.hid (hr1'.below hb1); have HR2 := Lib.hid (hr2'.below hb1)
  obtain ⟨p0, p1, p2, p3, p4, p5⟩ := blk6 S1
  obtain ⟨q0, q1, q2, q3, q4, q5⟩ := blk6 S2
  clear S1 S2 hr1 hr1' hr2 hr2' he0 he1 he2
  by_cases he : e0 = 0
  · have HZ0 := Lib.hid (HZ.out he)
    subst he
    have hcc : ((0 : Int) == 0) = true := rfl
    have HX : Hid (∀ v, askF 0 v = v) := Lib.hid fun v => if_pos rfl
    clear HZ HN
    go_enter Tryz.func33, Tryz.ntmps33
    go_wp2_with fail
    refine (H2.out w1 _ _ HR1.out HR2.out).mono ?_
    rintro e w2 ⟨rfl, hb2⟩
    obtain ⟨hc2, hf2⟩ := bcell hb2
    go_wp2_with fail
    refine (refsome_any 2 c1 c2 _ _ w2 _ _ (HR1.out.below (hb2.mono (by omega))) (HR2.out.below (hb2.mono (by omega))) HZ0.out).mono ?_
    rw [HSV.out]
    rintro e w3 ⟨rfl, hb3⟩
    go_wp2_with fail
    go_ret2
    exact ⟨by rw [HX.out]; rfl, hb1.seq (hb2.seq hb3)⟩
  · have hcc : (e0 == 0) = false := by simpa using he
    have HX : Hid (∀ v, askF e0 v = false) := Lib.hid fun v => if_neg he
    clear he HZ HN
    go_enter Tryz.func33, Tryz.ntmps33
    go_wp2_with fail
    refine (H2.out w1 _ _ HR1.out HR2.out).mono ?_
    rintro e w2 ⟨rfl, hb2⟩
    go_wp2_with fail
    go_ret2
    exact ⟨by rw [HX.out]; rfl, hb1.seq hb2⟩
end Go.Proofs.YtfildbkkmnfekaaGreatDoor
namespace Go.Proofs.YtfildbkkmnfekaaGreatDoor
open Go.RowKit Go.Shelf
attribute [local go_sem] Oper.semAt_some

/-- In a round an operation that is no defer goes as elsewhere. -/
theorem uponIn_round {F : Fence} {rr n : Nat} {P : Program} {o : Oper} {a : Act} {next : Act → World → Prop} {Q : Exit → Act → World → Prop} {r : Result Next} (h : o.uponIn F n P a next Q r) : o.uponIn (F.inRound rr) n P a next Q r := h
theorem wpAnyIn_round {F : Fence} {rr n : Nat} {P : Program} {md : Region.Mode} {ops : Array Oper} {Q : Exit → Act → World → Prop} (hd : ∀ (i : Nat) (o : Oper), ops[i]? = some o → ∀ c, o.op ≠ .defer c) :
    ∀ (fuel : Nat) (listed : Array Bool) (a : Act) (w : World), wpAnyIn F n P md ops Q fuel listed a w → wpAnyIn (F.inRound rr) n P md ops Q fuel listed a w
  | 0, _, _, _, h => h
  | fuel + 1, listed, a, w, h => by
    refine ⟨h.1, fun i hi => ?_⟩
    have h2 := h.2 i hi
    unfold wpOpIn at h2 ⊢
    cases ho : ops[i]? with
    | none => rw [ho] at h2; exact wpAnyIn_round hd fuel _ _ _ h2
    | some o =>
      rw [ho] at h2
      simp only at h2 ⊢
      split at h2
      · rename_i hw
        rw [if_pos hw]
        have h3 := Oper.wpIn_mono (K' := wpAnyIn (F.inRound rr) n P md ops Q fuel (listed.setIfInBounds i true)) (fun a w h => wpAnyIn_round hd fuel _ a w h) h2
        unfold Oper.wpIn at h3 ⊢
        rw [Oper.semAt_eq _ _ _ (hd i o ho)] at h3 ⊢
        exact ⟨h3.1, uponIn_round h3.2⟩
      · rename_i hw
        rw [if_neg hw]
        exact ⟨h2.1, wpAnyIn_round hd fuel _ _ _ h2.2⟩
theorem wpIn_region_since {F : Fence} {rr n : Nat} {P : Program} {id : Nat} {Q : Exit → Act → World → Prop} {a : Act} {w : World} {l : List Oper} (hro : F.round = none) (hm : P.follows .mixedOrders = true) (hB : Region.lexB .any l.toArray = true)
    (hd : ∀ (i : Nat) (o : Oper), l.toArray[i]? = some o → ∀ c, o.op ≠ .defer c)
    (h : wpQuietIn F n P l.toArray (fun w' => ∃ p : Since w, w' = p.wld) (fun a' => ∀ w', (∃ p : Since w, w' = p.wld) → Q .normal a' w') l a) : (Code.region id l.toArray true).wpIn (F.inRound rr) n P Q a w := by
  simp only [Region.lexB, Bool.and_eq_true] at hB
  refine wpIn_region_any hm (wpAnyIn_round hd _ _ _ _ (wpAnyIn_of_quiet (C := fun w' => ∃ p : Since w, w' = p.wld) (Q := fun a' => ∀ w', (∃ p : Since w, w' = p.wld) → Q .normal a' w') hro (fun _ w' hw' h => h w' hw') _ _ _ _ ⟨⟨w.drew, ⟨rfl, rfl, rfl, Nat.le_refl _, fun _ _ => rfl⟩⟩, rfl⟩ ?_))
  have := wpAnyQIn_lex (F := F) (n := n) (C := fun w' => ∃ p : Since w, w' = p.wld) (md := .any) hB.1 l 0 (Array.replicate l.toArray.size false) a (by simp) (by simpa using hB.2) h
  simpa using this
theorem wide_depth {n : Nat} : Fence.wide.depth.isSome = true → 1 ≤ n := fun h => by cases h
theorem asked_wide {P : Program} {o : Oper} {a : Act} {C : World → Prop} : o.askedIn Fence.wide P a C := fun _ _ _ _ => trivial
theorem since_ofIn {P : Program} {n : Nat} {f : FuncId} {args : Array Value} {w : World} {p : Since w} {v : Value}
    (h : Calls P f args p.wld fun e w' => e = .returned v ∧ Below p.wld.heap.size p.wld w') : CallsIn Fence.wide n P f args p.wld fun e w'' => e = .returned v ∧ ∃ q : Since w, w'' = q.wld :=
  callsIn_wide.2 (since_of h)
theorem alloc5_facts (w : World) (o o1 o2 o3 o4 : Obj) : ∃ w1, ((((w.alloc o).alloc o1).alloc o2).alloc o3).alloc o4 = w1 ∧ w1.heap[w.heap.size]? = some o ∧ w1.heap[w.heap.size + 1]? = some o1 ∧ w1.heap[w.heap.size + 1 + 1]? = some o2 ∧ w1.heap[w.heap.size + 1 + 1 + 1]? = some o3 ∧ w1.heap[w.heap.size + 1 + 1 + 1 + 1]? = some o4 ∧ w.heap.size + 1 + 1 + 1 + 1 < w1.heap.size ∧ Below w.heap.size w w1 := by
  obtain ⟨w1, hw1, h1, h2, h3, h4, hs, hb⟩ := alloc4b_facts w o o1 o2 o3
  have hs3 : w1.heap.size = w.heap.size + 1 + 1 + 1 + 1 := by rw [← hw1]; simp
  rw [hw1]
  refine ⟨_, rfl, hp_alloc h1, hp_alloc h2, hp_alloc h3, hp_alloc h4, ?_, by simp; omega, hb.alloc (by omega) _⟩
  rw [← hs3]; exact heap_alloc_new _ _
theorem set1_facts {w w2 : World} {g g' : Nat} {u0 u1 : Value} (v : Bool) (e : Int) (h : w2.heap[g]? = some (.cells #[u0] 4)) (h' : w2.heap[g']? = some (.cells #[u1] 30)) (hne : g ≠ g') (hb : Below w.heap.size w w2) (hg : w.heap.size ≤ g) (hg' : w.heap.size ≤ g') :
    ∃ wf, (w2.setCell ⟨g, 0, none⟩ (.bool v)).setCell ⟨g', 0, none⟩ (.int .i64 e) = wf ∧ wf.heap[g]? = some (.cells #[.bool v] 4) ∧ wf.heap[g']? = some (.cells #[.int .i64 e] 30) ∧
      (∀ k, k ≠ g → k ≠ g' → wf.heap[k]? = w2.heap[k]?) ∧ wf.heap.size = w2.heap.size ∧ Below w.heap.size w wf := by
  refine ⟨_, rfl, ?_, ?_, fun k h1 h2 => ?_, by simp [World.setCell], (hb.setCell (p := ⟨g, 0, none⟩) hg _).setCell (p := ⟨g', 0, none⟩) hg' _⟩
  · exact hp_far hne (hp_set1 h)
  · exact hp_set1 (hp_far (Ne.symm hne) h')
  · rw [Below.heap_setCell _ _ _ _ h2, Below.heap_setCell _ _ _ _ h1]
set_option maxHeartbeats 4000000 in
set_option maxRecDepth 100000 in
theorem some_any (h : Nat) (hw : Bool → Bool → Bool) (c1 c2 : Cls) (cs1 cs2 : List Value) (w : World) (F1 F2 : Nat → Prop) (hr1 : RepC w F1 c1 cs1) (hr2 : RepC w F2 c2 cs2) (hT : Tab w)
    (hh : ∀ x y W, Calls Tryz.prog h #[.bool x, .bool y] W fun e w' => e = .returned (.bool (hw x y)) ∧ w' = W)
    (hcl : ∀ x y W, (callFunc h #[.bool x, .bool y]).run Tryz.prog W = .ok (.enter h #[.bool x, .bool y]) W) :
    Calls Tryz.prog 64 #[.agg cs1.toArray, .agg cs2.toArray, .func (.func h) #[] #[]] w fun e w' => e = .returned (.tuple #[.bool (askF (orE (chkR c1) (chkR c2)) (someF (fun x => hw (inC c1 x.1 x.2) (inC c2 x.1 x.2)) (addL [c1, c2] ([], [])))), .int .i64 (orE (chkR c1) (chkR c2))]) ∧ Below w.heap.size w w' := by
  obtain ⟨e0, he0⟩ : ∃ e1, orE (chkR c1) (chkR c2) = e1 := ⟨_, rfl⟩
  obtain ⟨R, hR⟩ : ∃ R, someF (fun x => hw (inC c1 x.1 x.2) (inC c2 x.1 x.2)) (addL [c1, c2] ([], [])) = R := ⟨_, rfl⟩
  rw [he0, hR]
  have HE0 := Lib.hid he0; have HRR := Lib.hid hR; have HH := Lib.hid hh
  have HE1 : Hid (chkL [c1, c2] = e0) := Lib.hid (by rw [chkL_two]; exact he0)
  have hr1' := hr1.here
  have hr2' := hr2.here
  obtain ⟨k1, ns1, nl1, s1, A1, n1, c01, A1', n1', c01', rfl⟩ := hr1.cells
  obtain ⟨k2, ns2, nl2, s2, A2, n2, c02, A2', n2', c02', rfl⟩ := hr2.cells
  obtain ⟨w1, hw1, S1, S2, S0, S6, S7, hsz0, hb1⟩ := alloc5_facts w (.cells #[.int .i64 k1, .string ns1, .string nl1, .string s1, .slice A1 n1 c01, .slice A1' n1' c01'] 28) (.cells #[.int .i64 k2, .string ns2, .string nl2, .string s2, .slice A2 n2 c02, .slice A2' n2' c02'] 28) (.cells #[.func (.func h) #[] #[]] 79) (.cells #[.bool false] 4) (.cells #[.int .i64 0] 30)
  have HR1 := Lib.hid (hr1'.below hb1); have HR2 := Lib.hid (hr2'.below hb1); have HS1 := Lib.hid S1; have HS2 := Lib.hid S2; have HS0 := Lib.hid S0; have HS6 := Lib.hid S6; have HS7 := Lib.hid S7; have HT := Lib.hid (hT.below hb1)
  obtain ⟨p0, p1, p2, p3, p4, p5⟩ := blk6 HS1.out
  obtain ⟨q0, q1, q2, q3, q4, q5⟩ := blk6 HS2.out
  have hT0 := hT.lt
  have hz1 : w.heap.size + 1 + 1 + 1 + 1 < w1.heap.size := by omega
  obtain ⟨w2, hw2, T2, hsz2, hb2⟩ := alloc_facts w1 (.cells #[.int .i64 k1, .string ns1, .string nl1, .string s1, .slice A1 n1 c01, .slice A1' n1' c01', .int .i64 k2, .string ns2, .string nl2, .string s2, .slice A2 n2 c02, .slice A2' n2' c02'] 28)
  have HRo : Hid (RowL w2 (· < w2.heap.size) [c1, c2] (some ⟨w1.heap.size, 0, none⟩) 2) := Lib.hid (RowL.two ((HR1.out.below (hb2.mono (by omega))).wide (fun b hb _ => by omega)) ((HR2.out.below (hb2.mono (by omega))).wide (fun b hb _ => by omega)) T2 (by omega))
  have H43 : Hid (Calls Tryz.prog 43 #[.slice (some ⟨w1.heap.size, 0, none⟩) 2 2] w2 fun e w' => e = .returned (.int .i64 e0) ∧ Below w2.heap.size w2 w') := Lib.hid (by rw [← HE1.out]; exact checked_any [c1, c2] _ 2 2 w2 _ HRo.out (by omega))
  clear S1 S2 S0 S6 S7 T2 hr1 hr2 hr1' hr2' he0 hR hT hh
  by_cases he : e0 = 0
  rotate_left 1
  · have hcc : (e0 != 0) = true := by simpa using he
    have HX : Hid (askF e0 R = false) := Lib.hid (if_neg he)
    clear he
    refine (callsIn_wide (n := 3)).1 ?_
    refine callsIn_of_wp_marks Tryz.func64 rfl trivial ?_ rfl
    simp only [Tryz.ntmps64, List.size_toArray, List.length_cons, List.length_nil, Nat.reduceAdd, Nat.reduceSub, Array.replicate_succ, Array.replicate_zero, List.push_toArray, List.append_toArray, List.nil_append, List.cons_append]
    gi_wp2_with (refine ⟨trivial, ?_⟩; gi_at_call 43; refine (callsIn_wide.2 H43.out).mono ?_; rintro e w3 ⟨rfl, hb3⟩; have SZ := hp_below HS6.out (hb2.seq hb3); have SY := hp_below HS7.out (hb2.seq hb3); have HSZ := Lib.hid SZ; have HSY := Lib.hid SY; have f3 := frozen_of_row w3 (w.heap.size + 1 + 1 + 1) 0 _ _ SZ; have f4 := frozen_of_row w3 (w.heap.size + 1 + 1 + 1 + 1) 0 _ _ SY; have z0 := blk1 SZ; have z2 := blk1 SY; clear SZ SY)
    obtain ⟨wf, hwf, Y1, Y2, -, -, hbf⟩ := set1_facts false e0 HSZ.out HSY.out (by omega) (hb1.seq (hb2.seq hb3)) (by omega) (by omega)
    have y0 := blk1 Y1
    have y2 := blk1 Y2
    rw [hwf]
    exact ⟨.tuple #[.bool false, .int .i64 e0], by simp [results, Tryz.results64, go_sem, y0, y2], by rw [HX.out], hbf⟩
  · subst he
    have hcc : ((0 : Int) != 0) = false := rfl
    have HX : Hid (askF 0 R = R) := Lib.hid (if_pos rfl)
    have HK1 := Lib.hid (chkR_zero (orE_zero HE0.out).1); have HK2 := Lib.hid (chkR_zero (orE_zero HE0.out).2)
    refine (callsIn_wide (n := 3)).1 ?_
    refine callsIn_of_wp_marks Tryz.func64 rfl trivial ?_ rfl
    simp only [Tryz.ntmps64, List.size_toArray, List.length_cons, List.length_nil, Nat.reduceAdd, Nat.reduceSub, Array.replicate_succ, Array.replicate_zero, List.push_toArray, List.append_toArray, List.nil_append, List.cons_append]
    gi_wp2_with (first | (refine ⟨trivial, ?_⟩; gi_at_call 43; refine (callsIn_wide.2 H43.out).mono ?_; rintro e w3 ⟨rfl, hb3⟩; clear p0 p1 p2 p3 p4 p5 q0 q1 q2 q3 q4 q5; obtain ⟨p0, p1, p2, p3, p4, p5⟩ := blk6 (hp_below HS1.out (hb2.seq hb3)); obtain ⟨q0, q1, q2, q3, q4, q5⟩ := blk6 (hp_below HS2.out (hb2.seq hb3)); obtain ⟨w4, hw4, T4, hsz4, hb4⟩ := alloc_facts w3 (.cells #[.int .i64 k1, .string ns1, .string nl1, .string s1, .slice A1 n1 c01, .slice A1' n1' c01', .int .i64 k2, .string ns2, .string nl2, .string s2, .slice A2 n2 c02, .slice A2' n2' c02'] 28); have hs3 := (hb2.seq hb3).size; have HR4 : Hid (RowL w4 (· < w4.heap.size) [c1, c2] (some ⟨w3.heap.size, 0, none⟩) 2) := Lib.hid (RowL.two ((HR1.out.below (((hb2.seq hb3).seq hb4).mono (by omega))).wide (fun b hb _ => by omega)) ((HR2.out.below (((hb2.seq hb3).seq hb4).mono (by omega))).wide (fun b hb _ => by omega)) T4 (by omega)); clear T4) | (refine ⟨trivial, ?_⟩; gi_at_call 44; refine (callsIn_wide.2 (mentioned_any [] none 0 0 [c1, c2] (some ⟨w3.heap.size, 0, none⟩) 2 2 w4 (fun _ => True) (· < w4.heap.size) (RowV.nil _ _ _ _ _) HR4.out (by omega) (by omega))).mono ?_; rintro e w5 ⟨g1, g2, rfl, hM, -, hb5⟩; have HM := Lib.hid hM; clear hM) | (refine ⟨trivial, ?_⟩; gi_at_call 45; refine (callsIn_wide.2 (candidates_any g1 g2 w5)).mono ?_; rintro e w6 ⟨rfl, hbl, hb6⟩; have HBL := Lib.hid hbl; clear hbl))
    have hb16 : Below w1.heap.size w1 w6 := (((hb2.seq hb3).seq hb4).seq hb5).seq hb6
    have hs16 := hb16.size
    have hs6 := hp_lt HBL.out
    have hs5 : w1.heap.size ≤ w5.heap.size := (((hb2.seq hb3).seq hb4).seq hb5).size
    have HM6 := Lib.hid (MapsAt.below HM.out hb6)
    have HT6 := Lib.hid (HT.out.below hb16)
    have HS16 := Lib.hid (hp_below HS1.out hb16); have HS26 := Lib.hid (hp_below HS2.out hb16); have HS06 := Lib.hid (hp_below HS0.out hb16); have HS66 := Lib.hid (hp_below HS6.out hb16); have HS76 := Lib.hid (hp_below HS7.out hb16)
    have HNL : Hid (numL [c1, c2] ≤ 200) := Lib.hid (by rw [numL, numL, numL]; have := HK1.out.1; have := HK2.out.1; omega)
    have HC := Lib.hid (candFns_men g1 g2 [c1, c2] [] (by rw [formL, formL, HK1.out.2, HK2.out.2]; rfl) (by have := HNL.out; omega) (by simp) (by have := HNL.out; simp; omega))
    have HLN : Hid ((addL [c1, c2] ([], [])).1.length < 1000 ∧ (addL [c1, c2] ([], [])).2.length < 1000) := Lib.hid (by have := addL_len [c1, c2] ([], []); have := HNL.out; simp at *; omega)
    have hx1 : w.heap.size + 1 + 1 + 1 ≠ g1 := cells_ne_map HS66.out HM6.out.1
    have hx2 : w.heap.size + 1 + 1 + 1 + 1 ≠ g1 := cells_ne_map HS76.out HM6.out.1
    have hx3 : w.heap.size + 1 + 1 + 1 ≠ g2 := cells_ne_map HS66.out HM6.out.2
    have hx4 : w.heap.size + 1 + 1 + 1 + 1 ≠ g2 := cells_ne_map HS76.out HM6.out.2
    obtain ⟨f, hf⟩ : ∃ f : Nm → Bool, (fun x : Nm => hw (inC c1 x.1 x.2) (inC c2 x.1 x.2)) = f := ⟨_, rfl⟩
    have hseq := cand_iter g1 g2 w5.heap.size _ _ _ _ _ (fun k => k = w.heap.size + 1 + 1 + 1 ∨ k = w.heap.size + 1 + 1 + 1 + 1) w6 HC.out HBL.out HM6.out HT6.out (by omega) (by omega) (by omega) (by omega) (by have := HLN.out; omega) (by have := HLN.out; omega)
    rw [cands_eq] at hseq
    obtain ⟨L, hL⟩ : ∃ L, candN (addL [c1, c2] ([], [])) [] = L := ⟨_, rfl⟩
    rw [hL] at hseq
    have HW : Hid (L.any f = R) := Lib.hid (by rw [← HRR.out, hf, ← hL]; rfl)
    have HF : Hid (∀ a b, f (a, b) = hw (hasC c1 a b) (hasC c2 a b)) := Lib.hid fun a b => by rw [← hf, hasC_eq _ _ _ HK1.out.2, hasC_eq _ _ _ HK2.out.2]
    clear hf hL p0 p1 p2 p3 p4 p5 q0 q1 q2 q3 q4 q5
    refine wpIn_rangeS (gf := 75) (lb := #[.pointer (some ⟨w5.heap.size, 0, none⟩)]) rfl (enters_of Tryz.func75 (by kernel_rfl) rfl) hseq (Kept.refl _ _) ⟨by omega, by omega⟩ (fun _ => rfl)
      (fun _ pre W => (∀ y ∈ pre, f y = false) ∧ Below w6.heap.size w6 W)
      (fun c _ W => c = .ret ∧ R = true ∧ W.heap[w.heap.size + 1 + 1 + 1]? = some (.cells #[.bool true] 4) ∧ W.heap[w.heap.size + 1 + 1 + 1 + 1]? = some (.cells #[.int .i64 0] 30) ∧ Below w.heap.size w W)
      (fun _ _ _ _ => trivial)
      (fun T pre A B h ht _ hk => ⟨h.1, keptBelow h.2 (Nat.le_refl _) hk (by rintro k hk (h1 | h1 | h1); have := (ht k h1).1; omega; omega; omega)⟩)
      (fun T pre A B h ht _ hk => ⟨h.1, keptBelow h.2 (Nat.le_refl _) hk (by rintro k hk h1; have := (ht k h1).1; omega)⟩)
      (fun c pre A B h hk => ⟨h.1, h.2.1, hp_kept h.2.2.1 hk (by omega), hp_kept h.2.2.2.1 hk (by omega), keptBelow h.2.2.2.2 (Nat.le_refl _) hk (by intro k hk; omega)⟩)
      (fun W hb _ => ⟨by simp, hb⟩)
      (fun x W => { tmps := #[.agg #[.int .i64 k1, .string ns1, .string nl1, .string s1, .slice A1 n1 c01, .slice A1' n1' c01'], .agg #[.int .i64 k2, .string ns2, .string nl2, .string s2, .slice A2 n2 c02, .slice A2' n2' c02'], .func (.func h) #[] #[], .pointer (some ⟨w.heap.size, 0, none⟩), .pointer (some ⟨w.heap.size + 1, 0, none⟩), .pointer (some ⟨w.heap.size + 1 + 1, 0, none⟩), .pointer (some ⟨w.heap.size + 1 + 1 + 1, 0, none⟩), .pointer (some ⟨w.heap.size + 1 + 1 + 1 + 1, 0, none⟩), .int .i64 0, .pointer (some ⟨W.heap.size, 0, none⟩), .agg #[.int .i64 k1, .string ns1, .string nl1, .string s1, .slice A1 n1 c01, .slice A1' n1' c01'], .agg #[.int .i64 k2, .string ns2, .string nl2, .string s2, .slice A2 n2 c02, .slice A2' n2' c02'], .slice (some ⟨w1.heap.size, 0, none⟩) 2 2, .int .i64 0, .int .i64 0, .bool false, undef, .agg #[.int .i64 k1, .string ns1, .string nl1, .string s1, .slice A1 n1 c01, .slice A1' n1' c01'], .agg #[.int .i64 k2, .string ns2, .string nl2, .string s2, .slice A2 n2 c02, .slice A2' n2' c02'], .slice (some ⟨w3.heap.size, 0, none⟩) 2 2, .agg #[.map (some g1), .map (some g2)], .func (.func 75) #[] #[.pointer (some ⟨w5.heap.size, 0, none⟩)], .agg #[.string x.1, .string x.2], undef, undef, undef, undef, undef, undef, undef, undef], defers := [] })
      (fun x W => W.alloc (.cells #[.string x.1, .string x.2] 24)) (fun _ W => (Below.refl _ _).alloc (Nat.le_refl _) _) ?assign ?body ?done ?stop
    case assign =>
      intro m l x W K hK
      gi_wp2
      exact hK
    case body =>
      rintro mm l T pre ⟨a, b⟩ W W2 ⟨hpre, hbW⟩ hsp htb hlo hkW
      have hW2 := hkW.size
      have hsW : (W.alloc (.cells #[.string a, .string b] 24)).heap.size = W.heap.size + 1 := by simp
      have S9 : W2.heap[W.heap.size]? = some (.cells #[.string a, .string b] 24) := hp_kept (heap_alloc_new W _) hkW (by omega)
      obtain ⟨p0, p1, p2, p3, p4, p5⟩ := blk6 (hp_below HS16.out hbW)
      obtain ⟨q0, q1, q2, q3, q4, q5⟩ := blk6 (hp_below HS26.out hbW)
      have o0 := blk1 (hp_below HS06.out hbW)
      obtain ⟨r0, r1⟩ := blk2 S9
      obtain ⟨v1, hv1⟩ : ∃ v, hasC c1 a b = v := ⟨_, rfl⟩
      obtain ⟨v2, hv2⟩ : ∃ v, hasC c2 a b = v := ⟨_, rfl⟩
      obtain ⟨v, hv⟩ : ∃ v, hw v1 v2 = v := ⟨_, rfl⟩
      have hb1W : Below w1.heap.size w1 W2 := hb16.trans (hbW.mono hs16)
      have hk1 : w1.heap.size ≤ W2.heap.size := hb1W.size
      have HV : Hid (f (a, b) = v) := Lib.hid (by rw [HF.out, hv1, hv2, hv])
      have KR : Hid (∀ p : Since W2, RepC p.wld (· < w.heap.size) c1 _ ∧ RepC p.wld (· < w.heap.size) c2 _) := Lib.hid fun p => ⟨HR1.out.below ((hb1W.trans (p.below.mono hk1)).mono (by omega)), HR2.out.below ((hb1W.trans (p.below.mono hk1)).mono (by omega))⟩
      have C46 : Hid (∀ W, RepC W (· < w.heap.size) c1 [.int .i64 k1, .string ns1, .string nl1, .string s1, .slice A1 n1 c01, .slice A1' n1' c01'] → Calls Tryz.prog 46 #[.agg #[.int .i64 k1, .string ns1, .string nl1, .string s1, .slice A1 n1 c01, .slice A1' n1' c01'], .agg #[.string a, .string b]] W fun e w' => e = .returned (.bool v1) ∧ Below W.heap.size W w') := Lib.hid fun W h => has_val a b c1 _ W _ h hv1
      have D46 : Hid (∀ W, RepC W (· < w.heap.size) c2 [.int .i64 k2, .string ns2, .string nl2, .string s2, .slice A2 n2 c02, .slice A2' n2' c02'] → Calls Tryz.prog 46 #[.agg #[.int .i64 k2, .string ns2, .string nl2, .string s2, .slice A2 n2 c02, .slice A2' n2' c02'], .agg #[.string a, .string b]] W fun e w' => e = .returned (.bool v2) ∧ Below W.heap.size W w') := Lib.hid fun W h => has_val a b c2 _ W _ h hv2
      have HHv : Hid (∀ W, Calls Tryz.prog h #[.bool v1, .bool v2] W fun e w' => e = .returned (.bool v) ∧ Below W.heap.size W w') := Lib.hid fun W => (HH.out v1 v2 W).mono (by rintro e w' ⟨rfl, rfl⟩; exact ⟨by rw [hv], Below.refl _ _⟩)
      have hcl2 := hcl v1 v2
      have HS9 := Lib.hid S9; have HBW := Lib.hid hbW; have HSP := Lib.hid hsp; have HP := Lib.hid hpre; have HTB := Lib.hid htb
      have hk2 : w6.heap.size ≤ W2.heap.size := hbW.size
      clear hv1 hv2 hv S9 hkW hpre hsp htb hcl
      gi_wp2
      have so0 := Since.cell o0
      have sr0 := Since.cell r0
      have sr1 := Since.cell r1
      have sp0 := Since.cell p0
      have sp1 := Since.cell p1
      have sp2 := Since.cell p2
      have sp3 := Since.cell p3
      have sp4 := Since.cell p4
      have sp5 := Since.cell p5
      have sq0 := Since.cell q0
      have sq1 := Since.cell q1
      have sq2 := Since.cell q2
      have sq3 := Since.cell q3
      have sq4 := Since.cell q4
      have sq5 := Since.cell q5

      refine wpIn_region_since rfl (by kernel_rfl) (by kernel_rfl) (by intro i o ho c hc; rcases i with _ | _ | _ | _ | _ | _ | _ | _ | _ <;> first | (cases ho; cases hc) | (simp at ho)) ?_
      repeat
        (refine wpQuietIn_step asked_wide (fun K hK => ?_)
         go_simp
         first
           | (refine hK _ ?_; clear hK K)
           | (apply Exists.intro
              refine ⟨fun _ => ?_, hK _ ?_⟩
              (first
                | (with_reducible exact ⟨wide_depth, since_ofIn (C46.out _ (KR.out _).1)⟩)
                | (with_reducible exact ⟨wide_depth, since_ofIn (D46.out _ (KR.out _).2)⟩)
                | (with_reducible exact ⟨wide_depth, since_ofIn (HHv.out _)⟩))
              clear hK K))
      refine wpQuietIn_nil ?_
      intro W3 hq
      have hb3 := since_below hq
      clear hq KR p0 p1 p2 p3 p4 p5 q0 q1 q2 q3 q4 q5 o0 r0 r1 so0 sr0 sr1 sp0 sp1 sp2 sp3 sp4 sp5 sq0 sq1 sq2 sq3 sq4 sq5 hcl2
      have hb63 : Below w6.heap.size w6 W3 := HBW.out.trans (hb3.mono hk2)
      cases v
      · gi_wp2
        exact ⟨Kept.of_below hb3, fun y hy => by
          rcases List.mem_append.1 hy with hy | hy
          · exact HP.out y hy
          · rw [List.mem_singleton.1 hy]; exact HV.out, hb63⟩
      · have S3 := hp_below HS66.out hb63
        have S4 := hp_below HS76.out hb63
        have f3 := frozen_of_row W3 (w.heap.size + 1 + 1 + 1) 0 _ _ S3
        have f4 := frozen_of_row W3 (w.heap.size + 1 + 1 + 1 + 1) 0 _ _ S4
        have z0 := blk1 S3
        have z2 := blk1 S4
        obtain ⟨wf, hwf, Y1, Y2, Kf, Zf, hbf⟩ := set1_facts true 0 S3 S4 (by omega) (hb1.seq (hb16.trans (hb63.mono hs16))) (by omega) (by omega)
        have HY1 := Lib.hid Y1; have HY2 := Lib.hid Y2; have HWF := Lib.hid hwf
        have HRT : Hid (R = true) := Lib.hid (by
          rw [← HW.out, List.any_eq_true]
          exact ⟨(a, b), HSP.out.subset (by simp), HV.out⟩)
        clear S3 S4 Y1 Y2 Kf hwf
        gi_wp2
        refine ⟨?_, rfl, HRT.out, by rw [HWF.out]; exact HY1.out, by rw [HWF.out]; exact HY2.out, by rw [HWF.out]; exact hbf⟩
        exact ((Kept.of_below hb3).setCell (p := ⟨w.heap.size + 1 + 1 + 1, 0, none⟩) (.inl (.inl ⟨by show w.heap.size + 1 + 1 + 1 < w6.heap.size + 2; omega, .inl rfl⟩)) _).setCell (p := ⟨w.heap.size + 1 + 1 + 1 + 1, 0, none⟩) (.inl (.inl ⟨by show w.heap.size + 1 + 1 + 1 + 1 < w6.heap.size + 2; omega, .inr rfl⟩)) _
    case done =>
      rintro T xs W rfl ⟨hall, hbW⟩ hK
      have HRN : Hid (R = false) := Lib.hid (by
        rw [← HW.out]
        exact List.any_eq_false.2 fun x hx => by simp [hall x hx])
      have hb1W : Below w1.heap.size w1 W := hb16.trans (hbW.mono hs16)
      have S3 := hp_below HS6.out hb1W
      have S4 := hp_below HS7.out hb1W
      have f3 := frozen_of_row W (w.heap.size + 1 + 1 + 1) 0 _ _ S3
      have f4 := frozen_of_row W (w.heap.size + 1 + 1 + 1 + 1) 0 _ _ S4
      have z0 := blk1 S3
      have z2 := blk1 S4
      obtain ⟨wf, hwf, Y1, Y2, Kf, Zf, hbf⟩ := set1_facts false 0 S3 S4 (by omega) (hb1.seq hb1W) (by omega) (by omega)
      have HKf := Lib.hid (run_takeDeferred (P := Tryz.prog) ((Kf w6.heap.size (by omega) (by omega)).trans hK))
      have hwk : Kept (fun k => k = w6.heap.size) wf (wf.putObj w6.heap.size (.deferred none)) := kept_putObj _ _ _ rfl
      have y0 := blk1 (hp_kept Y1 hwk (by omega))
      have y2 := blk1 (hp_kept Y2 hwk (by omega))
      have HE := Lib.hid (keptBelow hbf (Nat.le_refl _) hwk (by intro k hk; omega))
      clear S3 S4 Y1 Y2 Kf hall hK
      (try simp only [Exit.inBlock, Exit.then])
      gi_wp2
      refine ⟨by simp, .inl ⟨_, _, rfl, HKf.out, ?_⟩⟩
      exact ⟨.tuple #[.bool false, .int .i64 0], by simp [results, Tryz.results64, go_sem, y0, y2], by rw [HX.out, HRN.out], HE.out⟩
    case stop =>
      rintro c pre W hsp ⟨rfl, hRT, h1, h2, hbW⟩ hK
      have HRT := Lib.hid hRT
      clear hRT
      gi_wp2
      refine ⟨by simp, .inl ⟨_, _, rfl, run_takeDeferred hK, ?_⟩⟩
      have hk : Kept (fun k => k = w6.heap.size) W (W.putObj w6.heap.size (.deferred none)) := kept_putObj _ _ _ rfl
      have y0 := blk1 (hp_kept h1 hk (by omega))
      have y2 := blk1 (hp_kept h2 hk (by omega))
      exact ⟨.tuple #[.bool true, .int .i64 0], by simp [results, Tryz.results64, go_sem, y0, y2], by rw [HX.out, HRT.out], keptBelow hbW (Nat.le_refl _) hk (by intro k hk; omega)⟩
end Go.Proofs.YtfildbkkmnfekaaGreatDoor
namespace Go.Proofs.YtfildbkkmnfekaaGreatDoor
open Go.RowKit

theorem orE_self (e : Int) : orE e e = e := by unfold orE; split <;> rfl
theorem addL_swap (c1 c2 : Cls) : addL [c1, c2] ([], []) = addL [c2, c1] ([], []) := by
  refine addL_ext (fun x => ?_) (fun x => ?_)
  · simp [mnL, or_comm]
  · simp [msL, or_comm]
theorem ask_no (e : Int) (v : Bool) (h : e ≠ 0) : askF e v = false := if_neg h
set_option maxHeartbeats 1000000 in
set_option maxRecDepth 100000 in
theorem Empty_any (c1 : Cls) (cs1 : List Value) (w : World) (F1 : Nat → Prop) (hr1 : RepC w F1 c1 cs1) (hT : Tab w) :
    Calls Tryz.prog 28 #[.agg cs1.toArray] w fun e w' => e = .returned (.tuple #[.bool (askF (chkR c1) (!(someF (fHow 0 c1 c1) (addL [c1, c1] ([], []))))), .int .i64 (chkR c1)]) ∧ Below w.heap.size w w' := by
  obtain ⟨e0, he0⟩ : ∃ e, chkR c1 = e := ⟨_, rfl⟩
  obtain ⟨v, hv⟩ : ∃ v, someF (fHow 0 c1 c1) (addL [c1, c1] ([], [])) = v := ⟨_, rfl⟩
  rw [he0, hv]
  have hr1' := hr1.here
  obtain ⟨k1, ns1, nl1, s1, A1, n1, c01, A1', n1', c01', rfl⟩ := hr1.cells
  obtain ⟨w1, hw1, S1, hsz1, hb1⟩ := alloc_facts w (.cells #[.int .i64 k1, .string ns1, .string nl1, .string s1, .slice A1 n1 c01, .slice A1' n1' c01'] 28)
  obtain ⟨p0, p1, p2, p3, p4, p5⟩ := blk6 S1
  have H64 : Hid (Calls Tryz.prog 64 #[.agg #[.int .i64 k1, .string ns1, .string nl1, .string s1, .slice A1 n1 c01, .slice A1' n1' c01'], .agg #[.int .i64 k1, .string ns1, .string nl1, .string s1, .slice A1 n1 c01, .slice A1' n1' c01'], .func (.func 65) #[] #[]] w1 fun e w' => e = .returned (.tuple #[.bool (askF e0 v), .int .i64 e0]) ∧ Below w1.heap.size w1 w') := Lib.hid (by
    have h := some_any 65 (fun x _ => x) c1 c1 _ _ w1 _ _ (hr1'.below hb1) (hr1'.below hb1) (hT.below hb1) (fun x y W => how65_any x y W) call65
    rw [orE_self, he0] at h
    rw [← hv]
    exact h)
  clear S1 hr1 hr1' hT he0 hv
  by_cases he : e0 = 0
  · subst he
    have hcc : ((0 : Int) == 0) = true := rfl
    have HA : Hid (∀ v, askF 0 v = v) := Lib.hid fun v => if_pos rfl
    have HA2 := Lib.hid (HA.out v)
    obtain ⟨av, hav⟩ : ∃ av, askF 0 v = av := ⟨_, rfl⟩
    rw [hav] at H64
    obtain rfl : av = v := hav.symm.trans HA2.out
    clear hav HA2
    cases av
    all_goals
      go_enter Tryz.func28, Tryz.ntmps28
      go_wp2_with fail
      refine H64.out.mono ?_
      rintro e w2 ⟨rfl, hb2⟩
      go_wp2_with fail
      go_ret2
      exact ⟨by rw [HA.out]; rfl, hb1.seq hb2⟩
  · have hcc : (e0 == 0) = false := by simpa using he
    have HA := Lib.hid (fun v => ask_no e0 v he)
    obtain ⟨av, hav⟩ : ∃ av, askF e0 v = av := ⟨_, rfl⟩
    rw [hav] at H64
    have HAV := Lib.hid hav
    clear he hav
    go_enter Tryz.func28, Tryz.ntmps28
    go_wp2_with fail
    refine H64.out.mono ?_
    rintro e w2 ⟨rfl, hb2⟩
    go_wp2_with fail
    go_ret2
    exact ⟨by rw [HA.out]; rfl, hb1.seq hb2⟩
set_option maxHeartbeats 1000000 in
set_option maxRecDepth 100000 in
theorem Includes_any (c1 c2 : Cls) (cs1 cs2 : List Value) (w : World) (F1 F2 : Nat → Prop) (hr1 : RepC w F1 c1 cs1) (hr2 : RepC w F2 c2 cs2) (hT : Tab w) :
    Calls Tryz.prog 30 #[.agg cs1.toArray, .agg cs2.toArray] w fun e w' => e = .returned (.tuple #[.bool (askF (orE (chkR c1) (chkR c2)) (!(someF (fHow 3 c2 c1) (addL [c2, c1] ([], []))))), .int .i64 (orE (chkR c1) (chkR c2))]) ∧ Below w.heap.size w w' := by
  obtain ⟨e0, he0⟩ : ∃ e, orE (chkR c1) (chkR c2) = e := ⟨_, rfl⟩
  obtain ⟨v, hv⟩ : ∃ v, someF (fHow 3 c2 c1) (addL [c2, c1] ([], [])) = v := ⟨_, rfl⟩
  rw [he0, hv]
  have hr1' := hr1.here
  have hr2' := hr2.here
  obtain ⟨k1, ns1, nl1, s1, A1, n1, c01, A1', n1', c01', rfl⟩ := hr1.cells
  obtain ⟨k2, ns2, nl2, s2, A2, n2, c02, A2', n2', c02', rfl⟩ := hr2.cells
  obtain ⟨w1, hw1, S1, S2, hsz1, hb1⟩ := alloc2_facts w (.cells #[.int .i64 k1, .string ns1, .string nl1, .string s1, .slice A1 n1 c01, .slice A1' n1' c01'] 28) (.cells #[.int .i64 k2, .string ns2, .string nl2, .string s2, .slice A2 n2 c02, .slice A2' n2' c02'] 28)
  obtain ⟨p0, p1, p2, p3, p4, p5⟩ := blk6 S1
  obtain ⟨q0, q1, q2, q3, q4, q5⟩ := blk6 S2
  have H64 : Hid (Calls Tryz.prog 64 #[.agg #[.int .i64 k1, .string ns1, .string nl1, .string s1, .slice A1 n1 c01, .slice A1' n1' c01'], .agg #[.int .i64 k2, .string ns2, .string nl2, .string s2, .slice A2 n2 c02, .slice A2' n2' c02'], .func (.func 67) #[] #[]] w1 fun e w' => e = .returned (.tuple #[.bool (askF e0 v), .int .i64 e0]) ∧ Below w1.heap.size w1 w') := Lib.hid (by
    have h := some_any 67 (fun x y => y && !x) c1 c2 _ _ w1 _ _ (hr1'.below hb1) (hr2'.below hb1) (hT.below hb1) (fun x y W => how67_any x y W) call67
    rw [he0] at h
    rw [← hv, addL_swap]
    exact h)
  clear S1 S2 hr1 hr2 hr1' hr2' hT he0 hv
  by_cases he : e0 = 0
  · subst he
    have hcc : ((0 : Int) == 0) = true := rfl
    have HA : Hid (∀ v, askF 0 v = v) := Lib.hid fun v => if_pos rfl
    have HA2 := Lib.hid (HA.out v)
    obtain ⟨av, hav⟩ : ∃ av, askF 0 v = av := ⟨_, rfl⟩
    rw [hav] at H64
    obtain rfl : av = v := hav.symm.trans HA2.out
    clear hav HA2
    cases av
    all_goals
      go_enter Tryz.func30, Tryz.ntmps30
      go_wp2_with fail
      refine H64.out.mono ?_
      rintro e w2 ⟨rfl, hb2⟩
      go_wp2_with fail
      go_ret2
      exact ⟨by rw [HA.out]; rfl, hb1.seq hb2⟩
  · have hcc : (e0 == 0) = false := by simpa using he
    have HA := Lib.hid (fun v => ask_no e0 v he)
    obtain ⟨av, hav⟩ : ∃ av, askF e0 v = av := ⟨_, rfl⟩
    rw [hav] at H64
    clear he hav
    go_enter Tryz.func30, Tryz.ntmps30
    go_wp2_with fail
    refine H64.out.mono ?_
    rintro e w2 ⟨rfl, hb2⟩
    go_wp2_with fail
    go_ret2
    exact ⟨by rw [HA.out]; rfl, hb1.seq hb2⟩
set_option maxHeartbeats 1000000 in
set_option maxRecDepth 100000 in
theorem Overlap_any (c1 c2 : Cls) (cs1 cs2 : List Value) (w : World) (F1 F2 : Nat → Prop) (hr1 : RepC w F1 c1 cs1) (hr2 : RepC w F2 c2 cs2) (hT : Tab w) :
    Calls Tryz.prog 32 #[.agg cs1.toArray, .agg cs2.toArray] w fun e w' => e = .returned (.tuple #[.bool (askF (orE (chkR c1) (chkR c2)) (someF (fHow 2 c1 c2) (addL [c1, c2] ([], [])))), .int .i64 (orE (chkR c1) (chkR c2))]) ∧ Below w.heap.size w w' := by
  obtain ⟨e0, he0⟩ : ∃ e, orE (chkR c1) (chkR c2) = e := ⟨_, rfl⟩
  obtain ⟨v, hv⟩ : ∃ v, someF (fHow 2 c1 c2) (addL [c1, c2] ([], [])) = v := ⟨_, rfl⟩
  rw [he0, hv]
  have hr1' := hr1.here
  have hr2' := hr2.here
  obtain ⟨k1, ns1, nl1, s1, A1, n1, c01, A1', n1', c01', rfl⟩ := hr1.cells
  obtain ⟨k2, ns2, nl2, s2, A2, n2, c02, A2', n2', c02', rfl⟩ := hr2.cells
  obtain ⟨w1, hw1, S1, S2, hsz1, hb1⟩ := alloc2_facts w (.cells #[.int .i64 k1, .string ns1, .string nl1, .string s1, .slice A1 n1 c01, .slice A1' n1' c01'] 28) (.cells #[.int .i64 k2, .string ns2, .string nl2, .string s2, .slice A2 n2 c02, .slice A2' n2' c02'] 28)
  obtain ⟨p0, p1, p2, p3, p4, p5⟩ := blk6 S1
  obtain ⟨q0, q1, q2, q3, q4, q5⟩ := blk6 S2
  have H64 : Hid (Calls Tryz.prog 64 #[.agg #[.int .i64 k1, .string ns1, .string nl1, .string s1, .slice A1 n1 c01, .slice A1' n1' c01'], .agg #[.int .i64 k2, .string ns2, .string nl2, .string s2, .slice A2 n2 c02, .slice A2' n2' c02'], .func (.func 69) #[] #[]] w1 fun e w' => e = .returned (.tuple #[.bool (askF e0 v), .int .i64 e0]) ∧ Below w1.heap.size w1 w') := Lib.hid (by
    have h := some_any 69 (fun x y => x && y) c1 c2 _ _ w1 _ _ (hr1'.below hb1) (hr2'.below hb1) (hT.below hb1) (fun x y W => how69_any x y W) call69
    rw [he0] at h
    rw [← hv]
    exact h)
  clear S1 S2 hr1 hr2 hr1' hr2' hT he0 hv
  obtain ⟨av, hav⟩ : ∃ av, askF e0 v = av := ⟨_, rfl⟩
  rw [hav] at H64 ⊢
  clear hav
  go_enter Tryz.func32, Tryz.ntmps32
  go_wp2_with fail
  refine H64.out.mono ?_
  rintro e w2 ⟨rfl, hb2⟩
  go_wp2_with fail
  go_ret2
  exact ⟨rfl, hb1.seq hb2⟩
end Go.Proofs.YtfildbkkmnfekaaGreatDoor
