/- names.Witness. -/
import Derived.Test.YtfildbkkmnfekaaGreatDoorPlnC
import Derived.Test.YtfildbkkmnfekaaGreatDoorG33
import Derived.Test.YtfildbkkmnfekaaGreatDoorG22
import Derived.Test.YtfildbkkmnfekaaGreatDoorG36
import Derived.Test.YtfildbkkmnfekaaGreatDoorG26
import Derived.RangeFuncNested
import Derived.RangeFuncBound
import Derived.RangeFuncCalls
import Derived.RangeFuncLeaves
import Derived.Shelf.Abstract
import Derived.Shelf.RegionOpen
import Derived.WalkKit
import Derived.OwnWalkIn
import Derived.TacticsInMore
import Derived.LoopNIn
import Derived.LoopIn
import Derived.Lib.Hide
import Derived.WalkSpells
import Derived.WalkLawsBesides
import Derived.Deep.DeepFit
import Derived.Lib.AppendIntMem
namespace Go.Proofs.YtfildbkkmnfekaaGreatDoor
open Go.RowKit Go.Shelf
attribute [local go_sem] Oper.semAt_some

/-- The first of a list for which f is true, and OK; or ErrNone. -/
def witF (f : Nm → Bool) (l : List Nm) : Nm × Int := match l.find? f with
  | some x => (x, 0)
  | none => ((⟨#[]⟩, ⟨#[]⟩), 4)
def witE (e : Int) (r : Nm × Int) : Nm × Int := if e = 0 then r else ((⟨#[]⟩, ⟨#[]⟩), e)
noncomputable def witR (c : Cls) (av : List Nm) : Nm × Int := witE (chkR c) (witF (fun x => inC c x.1 x.2 && !inNs av x.1 x.2) (candN (addL [c] ([], [])) av))
theorem witF_here {f : Nm → Bool} {l pre : List Nm} {x : Nm} (hp : ∀ y ∈ pre, f y = false) (hx : f x = true) (hs : pre ++ [x] <+: l) : witF f l = (x, 0) := by
  obtain ⟨r, rfl⟩ := hs
  unfold witF
  rw [List.append_assoc, List.find?_append, List.find?_eq_none.2 (fun y hy => by simp [hp y hy])]
  simp [hx]
theorem setw_facts {w w2 : World} {g g' : Nat} {u0 u1 u2 : Value} (a b : ByteArray) (e : Int) (h : w2.heap[g]? = some (.cells #[u0, u1] 24)) (h' : w2.heap[g']? = some (.cells #[u2] 30)) (hne : g ≠ g') (hb : Below w.heap.size w w2) (hg : w.heap.size ≤ g) (hg' : w.heap.size ≤ g') :
    ∃ wf, ((w2.setCell ⟨g, 0, none⟩ (.string a)).setCell ⟨g, 1, none⟩ (.string b)).setCell ⟨g', 0, none⟩ (.int .i64 e) = wf ∧ wf.heap[g]? = some (.cells #[.string a, .string b] 24) ∧ wf.heap[g']? = some (.cells #[.int .i64 e] 30) ∧
      (∀ k, k ≠ g → k ≠ g' → wf.heap[k]? = w2.heap[k]?) ∧ wf.heap.size = w2.heap.size ∧ Below w.heap.size w wf := by
  refine ⟨_, rfl, ?_, ?_, fun k h1 h2 => ?_, by simp [World.setCell], ((hb.setCell (p := ⟨g, 0, none⟩) hg _).setCell (p := ⟨g, 1, none⟩) hg _).setCell (p := ⟨g', 0, none⟩) hg' _⟩
  · refine hp_far hne ?_
    rw [hp_set (hp_set h)]; rfl
  · rw [hp_set (hp_far (Ne.symm hne) (hp_far (Ne.symm hne) h'))]; rfl
  · rw [Below.heap_setCell _ _ _ _ h2, Below.heap_setCell _ _ _ _ h1, Below.heap_setCell _ _ _ _ h1]
theorem witF_none {f : Nm → Bool} {l : List Nm} (hp : ∀ y ∈ l, f y = false) : witF f l = ((⟨#[]⟩, ⟨#[]⟩), 4) := by
  unfold witF
  rw [List.find?_eq_none.2 (fun y hy => by simp [hp y hy])]
set_option maxHeartbeats 1000000 in
set_option maxRecDepth 100000 in
theorem Witness_any (c1 : Cls) (cs1 : List Value) (av : List Nm) (A : Option Addr) (n c : Nat) (w : World) (F F' : Nat → Prop) (hr1 : RepC w F c1 cs1) (hav0 : RowV w F' 2 nmV av A n) (hn : n < 100000) (hT : Tab w) :
    Calls Tryz.prog 34 #[.agg cs1.toArray, .slice A n c] w fun e w' => e = .returned (.tuple #[.agg #[.string (witR c1 av).1.1, .string (witR c1 av).1.2], .int .i64 (witR c1 av).2]) ∧ Below w.heap.size w w' := by
  obtain ⟨e0, he0⟩ : ∃ e1, chkR c1 = e1 := ⟨_, rfl⟩
  obtain ⟨R, hR⟩ : ∃ R, witR c1 av = R := ⟨_, rfl⟩
  obtain ⟨R0, hR0⟩ : ∃ R, witF (fun x => inC c1 x.1 x.2 && !inNs av x.1 x.2) (candN (addL [c1] ([], [])) av) = R := ⟨_, rfl⟩
  rw [hR]
  have HE0 := Lib.hid he0
  have HE1 : Hid (chkN c1 = e0) := Lib.hid (by rw [chk_eq]; exact he0)
  have HRE : Hid (R = witE e0 R0) := Lib.hid (by rw [← hR]; unfold witR; rw [he0, hR0])
  have HR0 := Lib.hid hR0
  have hr1' := hr1.here
  have hav := hav0.here nmV_ne
  obtain ⟨k1, ns1, nl1, s1, A1, n1, c01, A1', n1', c01', rfl⟩ := hr1.cells
  obtain ⟨w1, hw1, S1, S2, S3, S4, hsz, hb1⟩ := alloc4b_facts w (.cells #[.int .i64 k1, .string ns1, .string nl1, .string s1, .slice A1 n1 c01, .slice A1' n1' c01'] 28) (.cells #[.slice A n c] 48) (.cells #[.string ⟨#[]⟩, .string ⟨#[]⟩] 24) (.cells #[.int .i64 0] 30)
  have HR1 := Lib.hid (hr1'.below hb1); have HS1 := Lib.hid S1; have HS2 := Lib.hid S2; have HS3 := Lib.hid S3; have HS4 := Lib.hid S4; have HT := Lib.hid (hT.below hb1)
  have HAV := Lib.hid (hav.below hb1)
  have HLA := Lib.hid hav.len
  obtain ⟨p0, p1, p2, p3, p4, p5⟩ := blk6 S1
  have q0 := blk1 S2
  have hsz0 : w.heap.size < w1.heap.size := by omega
  have hT1 := HT.out.lt
  clear S1 S2 S3 S4 hr1 hr1' he0 hR hR0 hT hav hav0
  by_cases he : e0 = 0
  rotate_left 1
  · have hcc : (e0 != 0) = true := by simpa using he
    have HX : Hid (R = ((⟨#[]⟩, ⟨#[]⟩), e0)) := Lib.hid (by rw [HRE.out]; exact if_neg he)
    clear he
    refine (callsIn_wide (n := 3)).1 ?_
    refine callsIn_of_wp_marks Tryz.func34 rfl trivial ?_ rfl
    simp only [Tryz.ntmps34, List.size_toArray, List.length_cons, List.length_nil, Nat.reduceAdd, Nat.reduceSub, Array.replicate_succ, Array.replicate_zero, List.push_toArray, List.append_toArray, List.nil_append, List.cons_append]
    gi_wp2_with (refine ⟨trivial, ?_⟩; gi_at_call 15; refine (callsIn_wide.2 (check_val c1 _ w1 _ HR1.out HE1.out)).mono ?_; rintro e w2 ⟨rfl, hb2⟩; have SZ := hp_below HS3.out hb2; have SY := hp_below HS4.out hb2; have HSZ := Lib.hid SZ; have HSY := Lib.hid SY; have f3 := frozen_of_row w2 (w.heap.size + 1 + 1) 0 _ _ SZ; have f3' := frozen_of_row w2 (w.heap.size + 1 + 1) 1 _ _ SZ; have f4 := frozen_of_row w2 (w.heap.size + 1 + 1 + 1) 0 _ _ SY; obtain ⟨z0, z1⟩ := blk2 SZ; have z2 := blk1 SY; clear SZ SY)
    obtain ⟨wf, hwf, Y1, Y2, -, -, hbf⟩ := setw_facts ⟨#[]⟩ ⟨#[]⟩ e0 HSZ.out HSY.out (by omega) (hb1.seq hb2) (by omega) (by omega)
    obtain ⟨y0, y1⟩ := blk2 Y1
    have y2 := blk1 Y2
    rw [hwf]
    exact ⟨.tuple #[.agg #[.string ⟨#[]⟩, .string ⟨#[]⟩], .int .i64 e0], by simp [results, Tryz.results34, go_sem, y0, y1, y2], by rw [HX.out], hbf⟩
  · subst he
    have hcc : ((0 : Int) != 0) = false := rfl
    have HX : Hid (R = R0) := Lib.hid (by rw [HRE.out]; exact if_pos rfl)
    have HK := Lib.hid (chkR_zero HE0.out)
    clear HRE
    refine (callsIn_wide (n := 3)).1 ?_
    refine callsIn_of_wp_marks Tryz.func34 rfl trivial ?_ rfl
    simp only [Tryz.ntmps34, List.size_toArray, List.length_cons, List.length_nil, Nat.reduceAdd, Nat.reduceSub, Array.replicate_succ, Array.replicate_zero, List.push_toArray, List.append_toArray, List.nil_append, List.cons_append]
    gi_wp2_with (first | (refine ⟨trivial, ?_⟩; gi_at_call 15; refine (callsIn_wide.2 (check_val c1 _ w1 _ HR1.out HE1.out)).mono ?_; rintro e w2 ⟨rfl, hb2⟩; clear p0 p1 p2 p3 p4 p5 q0; obtain ⟨p0, p1, p2, p3, p4, p5⟩ := blk6 (hp_below HS1.out hb2); have q0 := blk1 (hp_below HS2.out hb2); obtain ⟨w3, hw3, T3, hsz3, hb3⟩ := alloc_facts w2 (.cells #[.int .i64 k1, .string ns1, .string nl1, .string s1, .slice A1 n1 c01, .slice A1' n1' c01'] 28); have HT3 := Lib.hid T3; have hs2 := hb2.size; clear T3) | (refine ⟨trivial, ?_⟩; gi_at_call 44; refine (callsIn_wide.2 (mentioned_any av A n c [c1] (some ⟨w2.heap.size, 0, none⟩) 1 1 w3 (· < w.heap.size) (· < w3.heap.size) (HAV.out.below ((hb2.seq hb3).mono (by omega))) (RowL.one ((HR1.out.below ((hb2.seq hb3).mono (by omega))).wide (fun b hb _ => by omega)) HT3.out (by omega)) (by omega) (by omega))).mono ?_; rintro e w4 ⟨g1, g2, rfl, hM, -, hb4⟩; have HM := Lib.hid hM; clear hM) | (refine ⟨trivial, ?_⟩; gi_at_call 45; refine (callsIn_wide.2 (candidates_any g1 g2 w4)).mono ?_; rintro e w5 ⟨rfl, hbl, hb5⟩; have HBL := Lib.hid hbl; clear hbl))
    have hb15 : Below w1.heap.size w1 w5 := ((hb2.seq hb3).seq hb4).seq hb5
    have hs15 := hb15.size
    have hs5 := hp_lt HBL.out
    have hs4 : w1.heap.size ≤ w4.heap.size := ((hb2.seq hb3).seq hb4).size
    have HM5 := Lib.hid (MapsAt.below HM.out hb5)
    have HT5 := Lib.hid (HT.out.below hb15)
    have HS15 := Lib.hid (hp_below HS1.out hb15); have HS25 := Lib.hid (hp_below HS2.out hb15); have HS35 := Lib.hid (hp_below HS3.out hb15); have HS45 := Lib.hid (hp_below HS4.out hb15)
    have HNL : Hid (numL [c1] ≤ 100) := Lib.hid (by rw [numL, numL]; have := HK.out.1; omega)
    have hal : av.length < 100000 := by have := HLA.out; omega
    have HC := Lib.hid (candFns_men g1 g2 [c1] av (by rw [formL, HK.out.2]; rfl) (by have := HNL.out; omega) hal (by have := HNL.out; omega))
    have HLN : Hid ((addL [c1] ([], [])).1.length < 1000 ∧ (addL [c1] ([], [])).2.length < 1000) := Lib.hid (by have := addL_len [c1] ([], []); have := HNL.out; simp at *; omega)
    have hx1 : w.heap.size + 1 + 1 ≠ g1 := cells_ne_map HS35.out HM5.out.1
    have hx2 : w.heap.size + 1 + 1 + 1 ≠ g1 := cells_ne_map HS45.out HM5.out.1
    have hx3 : w.heap.size + 1 + 1 ≠ g2 := cells_ne_map HS35.out HM5.out.2
    have hx4 : w.heap.size + 1 + 1 + 1 ≠ g2 := cells_ne_map HS45.out HM5.out.2
    obtain ⟨f, hf⟩ : ∃ f : Nm → Bool, (fun x => inC c1 x.1 x.2 && !inNs av x.1 x.2) = f := ⟨_, rfl⟩
    have hseq := cand_iter g1 g2 w4.heap.size _ _ _ _ _ (fun k => k = w.heap.size + 1 + 1 ∨ k = w.heap.size + 1 + 1 + 1) w5 HC.out HBL.out HM5.out HT5.out (by omega) (by omega) (by omega) (by omega) (by have := HLN.out; omega) (by have := HLN.out; omega)
    rw [cands_eq] at hseq
    obtain ⟨L, hL⟩ : ∃ L, candN (addL [c1] ([], [])) av = L := ⟨_, rfl⟩
    rw [hL] at hseq
    have HW : Hid (witF f L = R0) := Lib.hid (by rw [← hf, ← hL]; exact HR0.out)
    have HF : Hid (∀ a b, f (a, b) = (hasC c1 a b && !inNs av a b)) := Lib.hid fun a b => by rw [← hf, hasC_eq _ _ _ HK.out.2]
    clear hf hL p0 p1 p2 p3 p4 p5 q0
    refine wpIn_rangeS (gf := 75) (lb := #[.pointer (some ⟨w4.heap.size, 0, none⟩)]) rfl (enters_of Tryz.func75 (by kernel_rfl) rfl) hseq (Kept.refl _ _) ⟨by omega, by omega⟩ (fun _ => rfl)
      (fun _ pre W => (∀ y ∈ pre, f y = false) ∧ Below w5.heap.size w5 W)
      (fun c _ W => c = .ret ∧ W.heap[w.heap.size + 1 + 1]? = some (.cells #[.string R0.1.1, .string R0.1.2] 24) ∧ W.heap[w.heap.size + 1 + 1 + 1]? = some (.cells #[.int .i64 R0.2] 30) ∧ Below w.heap.size w W)
      (fun _ _ _ _ => trivial)
      (fun T pre A B h ht _ hk => ⟨h.1, keptBelow h.2 (Nat.le_refl _) hk (by rintro k hk (h1 | h1 | h1); have := (ht k h1).1; omega; omega; omega)⟩)
      (fun T pre A B h ht _ hk => ⟨h.1, keptBelow h.2 (Nat.le_refl _) hk (by rintro k hk h1; have := (ht k h1).1; omega)⟩)
      (fun c pre A B h hk => ⟨h.1, hp_kept h.2.1 hk (by omega), hp_kept h.2.2.1 hk (by omega), keptBelow h.2.2.2 (Nat.le_refl _) hk (by intro k hk; omega)⟩)
      (fun W hb _ => ⟨by simp, hb⟩)
      (fun x W => { tmps := #[.agg #[.int .i64 k1, .string ns1, .string nl1, .string s1, .slice A1 n1 c01, .slice A1' n1' c01'], .slice A n c, .pointer (some ⟨w.heap.size, 0, none⟩), .pointer (some ⟨w.heap.size + 1, 0, none⟩), .pointer (some ⟨w.heap.size + 1 + 1, 0, none⟩), .pointer (some ⟨w.heap.size + 1 + 1 + 1, 0, none⟩), .int .i64 0, .pointer (some ⟨W.heap.size, 0, none⟩), .agg #[.int .i64 k1, .string ns1, .string nl1, .string s1, .slice A1 n1 c01, .slice A1' n1' c01'], .int .i64 0, .int .i64 0, .bool false, undef, undef, .slice A n c, .agg #[.int .i64 k1, .string ns1, .string nl1, .string s1, .slice A1 n1 c01, .slice A1' n1' c01'], .slice (some ⟨w2.heap.size, 0, none⟩) 1 1, .agg #[.map (some g1), .map (some g2)], .func (.func 75) #[] #[.pointer (some ⟨w4.heap.size, 0, none⟩)], .agg #[.string x.1, .string x.2], undef, undef, undef, undef, undef, undef, undef, undef, undef, undef, undef], defers := [] })
      (fun x W => W.alloc (.cells #[.string x.1, .string x.2] 24)) (fun _ W => (Below.refl _ _).alloc (Nat.le_refl _) _) ?assign ?body ?done ?stop
    case assign =>
      intro m l x W K hK
      gi_wp2
      exact hK
    case body =>
      rintro mm l T pre ⟨a, b⟩ W W2 ⟨hpre, hbW⟩ hsp htb hlo hkW
      have hW2 := hkW.size
      have hsW : (W.alloc (.cells #[.string a, .string b] 24)).heap.size = W.heap.size + 1 := by simp
      have S9 : W2.heap[W.heap.size]? = some (.cells #[.string a, .string b] 24) := hp_kept (heap_alloc_new W _) hkW (by omega)
      obtain ⟨p0, p1, p2, p3, p4, p5⟩ := blk6 (hp_below HS15.out hbW)
      obtain ⟨r0, r1⟩ := blk2 S9
      obtain ⟨v, hv⟩ : ∃ v, hasC c1 a b = v := ⟨_, rfl⟩
      obtain ⟨u, hu⟩ : ∃ u, inNs av a b = u := ⟨_, rfl⟩
      have hb1W : Below w1.heap.size w1 W2 := hb15.trans (hbW.mono hs15)
      have hk1 : w1.heap.size ≤ W2.heap.size := hb1W.size
      have HV : Hid (f (a, b) = (v && !u)) := Lib.hid (by rw [HF.out, hv, hu])
      have H46 : Hid (Calls Tryz.prog 46 #[.agg #[.int .i64 k1, .string ns1, .string nl1, .string s1, .slice A1 n1 c01, .slice A1' n1' c01'], .agg #[.string a, .string b]] W2 fun e w' => e = .returned (.bool v) ∧ Below W2.heap.size W2 w') := Lib.hid (has_val a b c1 _ W2 _ (HR1.out.below (hb1W.mono (by omega))) hv)
      have H70 : Hid (∀ W3, Below W2.heap.size W2 W3 → Calls Tryz.prog 70 #[.slice A n c, .agg #[.string a, .string b]] W3 fun e w' => e = .returned (.bool u) ∧ Below W3.heap.size W3 w') := Lib.hid fun W3 h3 => by
        rw [← hu]; exact contains70_any a b av A n c W3 _ (HAV.out.below ((hb1W.trans (h3.mono hk1)).mono (by omega))) (by omega)
      have HS9 := Lib.hid S9; have HBW := Lib.hid hbW; have HSP := Lib.hid hsp; have HP := Lib.hid hpre; have HTB := Lib.hid htb
      have hk2 : w5.heap.size ≤ W2.heap.size := hbW.size
      clear hv hu S9 hkW hpre hsp htb
      cases v
      · gi_wp2_with (first | (refine ⟨trivial, (fun h => by cases h), ?_⟩; gi_at_call 46; refine ((callsIn_wide.2 H46.out).inRound l).mono ?_; rintro e W3 ⟨rfl, hb3⟩; clear p0 p1 p2 p3 p4 p5 r0 r1; obtain ⟨r0, r1⟩ := blk2 (hp_below HS9.out hb3); have q0 := blk1 (hp_below HS25.out (HBW.out.trans (hb3.mono hk2)))) | (refine ⟨trivial, ?_⟩))
        exact ⟨Kept.of_below hb3, fun y hy => by
          rcases List.mem_append.1 hy with hy | hy
          · exact HP.out y hy
          · rw [List.mem_singleton.1 hy]; exact HV.out, HBW.out.trans (hb3.mono hk2)⟩
      · cases u
        · gi_wp2_with (first | (refine ⟨trivial, (fun h => by cases h), ?_⟩; gi_at_call 46; refine ((callsIn_wide.2 H46.out).inRound l).mono ?_; rintro e W3 ⟨rfl, hb3⟩; clear p0 p1 p2 p3 p4 p5 r0 r1; obtain ⟨r0, r1⟩ := blk2 (hp_below HS9.out hb3); have q0 := blk1 (hp_below HS25.out (HBW.out.trans (hb3.mono hk2)))) | (refine ⟨trivial, (fun h => by cases h), ?_⟩; gi_at_call 70; refine ((callsIn_wide.2 (H70.out _ hb3)).inRound l).mono ?_; rintro e W4 ⟨rfl, hb4⟩; clear r0 r1 q0; obtain ⟨r0, r1⟩ := blk2 (hp_below HS9.out (hb3.seq hb4)); have S3 := hp_below HS35.out (HBW.out.trans ((hb3.seq hb4).mono hk2)); have S4 := hp_below HS45.out (HBW.out.trans ((hb3.seq hb4).mono hk2)); have f3 := frozen_of_row W4 (w.heap.size + 1 + 1) 0 _ _ S3; have f3' := frozen_of_row W4 (w.heap.size + 1 + 1) 1 _ _ S3; have f4 := frozen_of_row W4 (w.heap.size + 1 + 1 + 1) 0 _ _ S4; obtain ⟨z0, z1⟩ := blk2 S3; have z2 := blk1 S4; have HS3' := Lib.hid S3; have HS4' := Lib.hid S4; clear S3 S4))
          have hR0 : R0 = ((a, b), 0) := by rw [← HW.out]; exact witF_here HP.out HV.out HSP.out
          have hb54 : Below w5.heap.size w5 W4 := HBW.out.trans ((hb3.seq hb4).mono hk2)
          obtain ⟨wf, hwf, Y1, Y2, Kf, Zf, hbf⟩ := setw_facts a b 0 HS3'.out HS4'.out (by omega) (hb1.seq (hb15.trans (hb54.mono hs15))) (by omega) (by omega)
          rw [hwf]
          refine ⟨?_, rfl, by rw [hR0]; exact Y1, by rw [hR0]; exact Y2, hbf⟩
          rw [← hwf]
          exact (((Kept.of_below (hb3.seq hb4)).setCell (p := ⟨w.heap.size + 1 + 1, 0, none⟩) (.inl (.inl ⟨by show w.heap.size + 1 + 1 < w5.heap.size + 2; omega, .inl rfl⟩)) _).setCell (p := ⟨w.heap.size + 1 + 1, 1, none⟩) (.inl (.inl ⟨by show w.heap.size + 1 + 1 < w5.heap.size + 2; omega, .inl rfl⟩)) _).setCell (p := ⟨w.heap.size + 1 + 1 + 1, 0, none⟩) (.inl (.inl ⟨by show w.heap.size + 1 + 1 + 1 < w5.heap.size + 2; omega, .inr rfl⟩)) _
        · gi_wp2_with (first | (refine ⟨trivial, (fun h => by cases h), ?_⟩; gi_at_call 46; refine ((callsIn_wide.2 H46.out).inRound l).mono ?_; rintro e W3 ⟨rfl, hb3⟩; clear p0 p1 p2 p3 p4 p5 r0 r1; obtain ⟨r0, r1⟩ := blk2 (hp_below HS9.out hb3); have q0 := blk1 (hp_below HS25.out (HBW.out.trans (hb3.mono hk2)))) | (refine ⟨trivial, (fun h => by cases h), ?_⟩; gi_at_call 70; refine ((callsIn_wide.2 (H70.out _ hb3)).inRound l).mono ?_; rintro e W4 ⟨rfl, hb4⟩; clear r0 r1 q0))
          exact ⟨Kept.of_below (hb3.seq hb4), fun y hy => by
            rcases List.mem_append.1 hy with hy | hy
            · exact HP.out y hy
            · rw [List.mem_singleton.1 hy]; exact HV.out, HBW.out.trans ((hb3.seq hb4).mono hk2)⟩
    case done =>
      rintro T xs W rfl ⟨hall, hbW⟩ hK
      have HRN : Hid (R = ((⟨#[]⟩, ⟨#[]⟩), 4)) := Lib.hid (by rw [HX.out, ← HW.out]; exact witF_none hall)
      have hb1W : Below w1.heap.size w1 W := hb15.trans (hbW.mono hs15)
      have S3 := hp_below HS3.out hb1W
      have S4 := hp_below HS4.out hb1W
      have f3 := frozen_of_row W (w.heap.size + 1 + 1) 0 _ _ S3
      have f3' := frozen_of_row W (w.heap.size + 1 + 1) 1 _ _ S3
      have f4 := frozen_of_row W (w.heap.size + 1 + 1 + 1) 0 _ _ S4
      obtain ⟨z0, z1⟩ := blk2 S3
      have z2 := blk1 S4
      obtain ⟨wf, hwf, Y1, Y2, Kf, Zf, hbf⟩ := setw_facts ⟨#[]⟩ ⟨#[]⟩ 4 S3 S4 (by omega) (hb1.seq hb1W) (by omega) (by omega)
      have HKf := Lib.hid (run_takeDeferred (P := Tryz.prog) ((Kf w5.heap.size (by omega) (by omega)).trans hK))
      have hwk : Kept (fun k => k = w5.heap.size) wf (wf.putObj w5.heap.size (.deferred none)) := kept_putObj _ _ _ rfl
      obtain ⟨y0, y1⟩ := blk2 (hp_kept Y1 hwk (by omega))
      have y2 := blk1 (hp_kept Y2 hwk (by omega))
      have HE := Lib.hid (keptBelow hbf (Nat.le_refl _) hwk (by intro k hk; omega))
      clear S3 S4 Y1 Y2 Kf hall hK
      (try simp only [Exit.inBlock, Exit.then])
      gi_wp2
      refine ⟨by simp, .inl ⟨_, _, rfl, HKf.out, ?_⟩⟩
      exact ⟨.tuple #[.agg #[.string ⟨#[]⟩, .string ⟨#[]⟩], .int .i64 4], by simp [results, Tryz.results34, go_sem, y0, y1, y2], by rw [HRN.out], HE.out⟩
    case stop =>
      rintro c pre W hsp ⟨rfl, h1, h2, hbW⟩ hK
      have HX2 := HX.out
      gi_wp2
      refine ⟨by simp, .inl ⟨_, _, rfl, run_takeDeferred hK, ?_⟩⟩
      have hk : Kept (fun k => k = w5.heap.size) W (W.putObj w5.heap.size (.deferred none)) := kept_putObj _ _ _ rfl
      obtain ⟨y0, y1⟩ := blk2 (hp_kept h1 hk (by omega))
      have y2 := blk1 (hp_kept h2 hk (by omega))
      exact ⟨.tuple #[.agg #[.string R0.1.1, .string R0.1.2], .int .i64 R0.2], by simp [results, Tryz.results34, go_sem, y0, y1, y2], by rw [HX.out], keptBelow hbW (Nat.le_refl _) hk (by intro k hk; omega)⟩
end Go.Proofs.YtfildbkkmnfekaaGreatDoor
