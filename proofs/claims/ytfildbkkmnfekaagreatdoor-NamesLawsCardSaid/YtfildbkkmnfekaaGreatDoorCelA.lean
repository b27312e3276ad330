/- names.Cells. -/
import Derived.Test.YtfildbkkmnfekaaGreatDoorCelQ
import Derived.Test.YtfildbkkmnfekaaGreatDoorPlnC
import Derived.Test.YtfildbkkmnfekaaGreatDoorG36
import Derived.Test.YtfildbkkmnfekaaGreatDoorG26
import Derived.Test.YtfildbkkmnfekaaGreatDoorG39
import Derived.RangeFuncNested
import Derived.RangeFuncBound
import Derived.RangeFuncCalls
import Derived.RangeFuncLeaves
import Derived.Shelf.Abstract
import Derived.Shelf.RegionOpen
import Derived.WalkKit
import Derived.OwnWalkIn
import Derived.TacticsInMore
import Derived.LoopNIn
import Derived.LoopIn
import Derived.Lib.Hide
import Derived.WalkSpells
import Derived.WalkLawsBesides
import Derived.Deep.DeepFit
import Derived.Lib.AppendIntMem
namespace Go.Proofs.YtfildbkkmnfekaaGreatDoor
open Go.RowKit Go.Shelf
attribute [local go_sem] Oper.semAt_some

noncomputable def qOf (l : List Cls) (x : Nm) : List Bool := l.map fun c => inC c x.1 x.2
noncomputable def cellsR (l : List Cls) : List (Nm × List Bool) × Int :=
  if 100 < l.length then ([], 3) else if chkL l = 0 then (cellsF (qOf l) (candN (addL l ([], [])) []) [], 0) else ([], chkL l)
/-- What Cells returns: a row of cells in blocks of its own. -/
def CellsPost (R : List (Nm × List Bool) × Int) (w : World) (e : Ending) (w' : World) : Prop :=
  ∃ A n c, e = .returned (.tuple #[.slice A n c, .int .i64 R.2]) ∧ n = R.1.length ∧ (0 < n → ∃ b off, A = some ⟨b, off, none⟩ ∧ w.heap.size ≤ b ∧ RepRow w' (w.heap.size ≤ ·) 3 (R.1.map cellD) b off) ∧ Below w.heap.size w w'
theorem cellsPost_nil {e : Int} {w w' : World} (hb : Below w.heap.size w w') : CellsPost ([], e) w (.returned (.tuple #[.slice none 0 0, .int .i64 e])) w' := ⟨none, 0, 0, rfl, rfl, (fun h => by omega), hb⟩
theorem formL_mem {l : List Cls} (h : formL l = true) {c : Cls} (hc : c ∈ l) : formC c = true := by
  induction l with
  | nil => simp at hc
  | cons d l ih =>
    rw [formL, Bool.and_eq_true] at h
    rcases List.mem_cons.1 hc with rfl | hc
    · exact h.1
    · exact ih h.2 hc
theorem keptInto {X M : Nat → Prop} {w A B : World} (h : Kept X w A) (hk : Kept M A B) (hM : ∀ k, k < w.heap.size → ¬ M k) : Kept X w B :=
  ⟨hk.os.trans h.os, hk.tape.trans h.tape, hk.output.trans h.output, Nat.le_trans h.size hk.size, fun k h1 h2 => (hk.block k (Nat.lt_of_lt_of_le h1 h.size) (hM k h1)).trans (h.block k h1 h2)⟩
theorem ownT_form {w : World} {base : Nat} {T : Nat → Prop} {out : List (Nm × List Bool)} {v : Value} (h : OwnT w base T out v) : ∃ A n c, v = .slice A n c := by
  obtain ⟨A, c, h, _⟩ := OwnD.row h.toD (by decide) (F := fun _ => True) (fun _ _ _ => trivial)
  exact ⟨A, _, c, h⟩
/-- What stands before and after each round. -/
def CelI (q : Nm → List Bool) (lo gm gc : Nat) (w5 : World) (T : Nat → Prop) (pre : List Nm) (W : World) : Prop :=
  ∃ v, W.heap[gc]? = some (.cells #[v] 29) ∧ OwnT W lo T (cellsF q pre []) v ∧ MapIs W gm stE (knO (cellsF q pre [])) ∧ Kept (fun k => k = gm ∨ k = gc) w5 W ∧ gc < w5.heap.size ∧ gm < w5.heap.size
theorem CelI.keep {q : Nm → List Bool} {lo gm gc : Nat} {w5 : World} {T T' M : Nat → Prop} {pre : List Nm} {A B : World} (h : CelI q lo gm gc w5 T pre A) (hs : A.heap.size ≤ B.heap.size)
    (h1 : ∀ k, lo ≤ k → k < A.heap.size → ¬ T k → ¬ T' k ∧ B.heap[k]? = A.heap[k]?) (h2 : ∀ k, k < w5.heap.size → B.heap[k]? = A.heap[k]?) (hk : Kept M A B) : CelI q lo gm gc w5 T' pre B := by
  obtain ⟨v, e1, e2, e3, e4, hg⟩ := h
  exact ⟨v, (h2 gc hg.1).trans e1, e2.keep h1 hs, MapIs.keep e3 (h2 gm hg.2), ⟨hk.os.trans e4.os, hk.tape.trans e4.tape, hk.output.trans e4.output, Nat.le_trans e4.size hs, fun k hk1 hm => (h2 k hk1).trans (e4.block k hk1 hm)⟩, hg⟩
theorem chkL_forms {l : List Cls} (h : chkL l = 0) : formL l = true ∧ numL l ≤ 100 * l.length := by
  induction l with
  | nil => exact ⟨by rw [formL], by rw [numL]; omega⟩
  | cons c l ih =>
    rw [chkL] at h
    by_cases h1 : chkN c = 0
    · rw [if_pos h1] at h
      obtain ⟨h2, h3⟩ := ih h
      rw [chk_eq] at h1
      obtain ⟨h4, h5⟩ := chkR_zero h1
      exact ⟨by rw [formL, h5, h2]; rfl, by rw [numL, List.length_cons]; omega⟩
    · rw [if_neg h1] at h; exact absurd h h1
set_option maxHeartbeats 4000000 in
set_option maxRecDepth 100000 in
theorem Cells_any (l : List Cls) (A : Option Addr) (n c : Nat) (w : World) (F : Nat → Prop) (hrow0 : RowL w F l A n) (hn : n < 2000000) (hT : Tab w) :
    Calls Tryz.prog 9 #[.slice A n c] w (CellsPost (cellsR l) w) := by
  have hro := hrow0.here
  have HNL := Lib.hid hro.1
  have HRO := Lib.hid hro
  obtain ⟨R, hR⟩ : ∃ R, cellsR l = R := ⟨_, rfl⟩
  rw [hR]
  obtain ⟨w1, hw1, S1, hsz, hb1⟩ := alloc_facts w (.cells #[.slice A n c] 22)
  have HS1 := Lib.hid S1; have HT := Lib.hid (hT.below hb1)
  have p0 := blk1 S1
  have hT0 := hT.lt
  by_cases hbig : 100 < n
  · have hd : decide ((100 : Int) < (n : Int)) = true := by simp; omega
    have HX : Hid (R = ([], 3)) := Lib.hid (by rw [← hR]; unfold cellsR; rw [if_pos (by rw [← hro.1]; exact hbig)])
    clear hR S1 hro hrow0
    refine (callsIn_wide (n := 3)).1 ?_
    refine callsIn_of_wp_marks Tryz.func9 rfl trivial ?_ rfl
    simp only [Tryz.ntmps9, List.size_toArray, List.length_cons, List.length_nil, Nat.reduceAdd, Nat.reduceSub, Array.replicate_succ, Array.replicate_zero, List.push_toArray, List.append_toArray, List.nil_append, List.cons_append]
    gi_wp2_with fail
    exact ⟨.tuple #[.slice none 0 0, .int .i64 3], by simp [results, Tryz.results9, go_sem], by rw [HX.out]; exact cellsPost_nil hb1⟩
  have hd : decide ((100 : Int) < (n : Int)) = false := by simp; omega
  obtain ⟨e0, he0⟩ : ∃ e0, chkL l = e0 := ⟨_, rfl⟩
  have HE0 := Lib.hid he0
  have H43 : Hid (Calls Tryz.prog 43 #[.slice A n c] w1 fun e w' => e = .returned (.int .i64 e0) ∧ Below w1.heap.size w1 w') := Lib.hid (by rw [← he0]; exact checked_any l A n c w1 _ (hro.below hb1) hn)
  by_cases he : e0 = 0
  rotate_left 1
  · have hcc : (e0 != 0) = true := by simpa using he
    have HX : Hid (R = ([], e0)) := Lib.hid (by rw [← hR]; unfold cellsR; rw [if_neg (by rw [← hro.1]; exact hbig), HE0.out, if_neg he])
    clear hR S1 hro he0 hrow0 hbig he
    refine (callsIn_wide (n := 3)).1 ?_
    refine callsIn_of_wp_marks Tryz.func9 rfl trivial ?_ rfl
    simp only [Tryz.ntmps9, List.size_toArray, List.length_cons, List.length_nil, Nat.reduceAdd, Nat.reduceSub, Array.replicate_succ, Array.replicate_zero, List.push_toArray, List.append_toArray, List.nil_append, List.cons_append]
    gi_wp2_with (refine ⟨trivial, ?_⟩; gi_at_call 43; refine (callsIn_wide.2 H43.out).mono ?_; rintro e w2 ⟨rfl, hb2⟩)
    exact ⟨.tuple #[.slice none 0 0, .int .i64 e0], by simp [results, Tryz.results9, go_sem], by rw [HX.out]; exact cellsPost_nil (hb1.seq hb2)⟩
  subst he
  have hcc : ((0 : Int) != 0) = false := rfl
  have HX : Hid (R = (cellsF (qOf l) (candN (addL l ([], [])) []) [], 0)) := Lib.hid (by rw [← hR]; unfold cellsR; rw [if_neg (by rw [← hro.1]; exact hbig), HE0.out, if_pos rfl])
  have HK := Lib.hid (chkL_forms HE0.out)
  have hn100 : n ≤ 100 := by omega
  have hmm := @run_makeMap Tryz.prog
  clear hR S1 hro he0 hrow0 hbig
  refine (callsIn_wide (n := 3)).1 ?_
  refine callsIn_of_wp_marks Tryz.func9 rfl trivial ?_ rfl
  simp only [Tryz.ntmps9, List.size_toArray, List.length_cons, List.length_nil, Nat.reduceAdd, Nat.reduceSub, Array.replicate_succ, Array.replicate_zero, List.push_toArray, List.append_toArray, List.nil_append, List.cons_append]
  gi_wp2_with (first | (refine ⟨trivial, ?_⟩; gi_at_call 43; refine (callsIn_wide.2 H43.out).mono ?_; rintro e w2 ⟨rfl, hb2⟩; clear p0; have p0 := blk1 (hp_below HS1.out hb2); obtain ⟨w3, hw3, T1, T2, T3, hsz3, hb3⟩ := alloc3_facts w2 (.map #[] 0) (.cells #[.map (some w2.heap.size)] 61) (.cells #[.slice none 0 0] 29); have p3 := blk1 (hp_below HS1.out (hb2.seq hb3)); have HT1 := Lib.hid T1; have HT2 := Lib.hid T2; have HT3 := Lib.hid T3; have hs2 := hb2.size; clear T1 T2 T3) | (refine ⟨trivial, ?_⟩; gi_at_call 44; refine (callsIn_wide.2 (mentioned_new [] none 0 0 l A n c w3 (fun _ => True) (· < w.heap.size) (RowV.nil _ _ _ _ _) (HRO.out.below ((hb1.seq (hb2.seq hb3)).mono (Nat.le_refl _))) (by omega) (by omega))).mono ?_; rintro e w4 ⟨g1, g2, rfl, hM, hg12, hg1, hg2, hb4⟩; have HM := Lib.hid hM; clear hM) | (refine ⟨trivial, ?_⟩; gi_at_call 45; refine (callsIn_wide.2 (candidates_any g1 g2 w4)).mono ?_; rintro e w5 ⟨rfl, hbl, hb5⟩; have HBL := Lib.hid hbl; clear hbl))
  have hb15 : Below w1.heap.size w1 w5 := (((hb2.seq hb3).seq hb4)).seq hb5
  have hb35 : Below w3.heap.size w3 w5 := hb4.seq hb5
  have hs35 := hb35.size
  have hs5 := hp_lt HBL.out
  have hs4 := hb4.size
  have HM5 := Lib.hid (MapsAt.below HM.out hb5)
  have HT5 := Lib.hid (HT.out.below hb15)
  have HNL2 : Hid (numL l ≤ 10000) := Lib.hid (by have := HK.out.2; have := HNL.out; omega)
  have HC := Lib.hid (candFns_men g1 g2 l [] HK.out.1 (by have := HNL2.out; omega) (by simp) (by have := HNL2.out; simp; omega))
  have HLN : Hid ((addL l ([], [])).1.length < 20000 ∧ (addL l ([], [])).2.length < 20000) := Lib.hid (by have := addL_len l ([], []); have := HNL2.out; simp at *; omega)
  have hseq := cand_iter g1 g2 w4.heap.size _ _ _ _ _ (fun k => k = w2.heap.size ∨ k = w2.heap.size + 1 + 1) w5 HC.out HBL.out HM5.out HT5.out (by omega) (by omega) (by omega) (by omega) (by have := HLN.out; omega) (by have := HLN.out; omega)
  rw [cands_eq] at hseq
  obtain ⟨L, hL⟩ : ∃ L, candN (addL l ([], [])) [] = L := ⟨_, rfl⟩
  rw [hL] at hseq
  have HLL : Hid (L.length < 50000) := Lib.hid (by rw [← hL, candN_len]; have := HLN.out; omega)
  have HRF : Hid (R = (cellsF (qOf l) L [], 0)) := Lib.hid (by rw [← hL]; exact HX.out)
  have HW5 : Hid (Below w.heap.size w w5) := Lib.hid (hb1.seq hb15)
  clear hL p0 p3 hmm hg12
  refine wpIn_rangeS (gf := 75) (lb := #[.pointer (some ⟨w4.heap.size, 0, none⟩)]) rfl (enters_of Tryz.func75 (by kernel_rfl) rfl) hseq (Kept.refl _ _) ⟨by omega, by omega⟩ (fun _ => rfl)
    (CelI (qOf l) (w5.heap.size + 2) w2.heap.size (w2.heap.size + 1 + 1) w5)
    (fun _ _ _ => False)
    (fun _ _ _ _ => trivial)
    (fun T pre A B h ht hs hk => CelI.keep h (hk.size) (fun k h1 h2 h3 => ⟨h3, hk.block k h2 (by rintro (h | h | h); exact h3 h; omega; omega)⟩) (fun k hk1 => hk.block k (by omega) (by rintro (h | h | h); have := (ht k h).1; omega; omega; omega)) hk)
    (fun T pre A B h ht hs hk => CelI.keep h (hk.size) (fun k h1 h2 h3 => ⟨by rintro (h | h); exact h3 h; omega, hk.block k h2 h3⟩) (fun k hk1 => hk.block k (by omega) (by intro h; have := (ht k h).1; omega)) hk)
    (fun c pre A B h hk => h)
    (fun W hb hs => ⟨.slice none 0 0, hp_below (hp_below HT3.out hb35) hb, OwnT.nil _ _ _, hp_below (hp_below (show MapIs w3 w2.heap.size stE [] from HT1.out) hb35) hb, Kept.of_below hb, by omega, by omega⟩)
    (fun x W => { tmps := #[.slice A n c, .pointer (some ⟨w.heap.size, 0, none⟩), .slice none 0 0, .int .i64 0, .int .i64 0, .pointer (some ⟨w2.heap.size + 1, 0, none⟩), .pointer (some ⟨w2.heap.size + 1 + 1, 0, none⟩), .pointer (some ⟨W.heap.size, 0, none⟩), undef, undef, undef, undef, .slice A n c, .int .i64 n, .bool false, .slice A n c, .int .i64 0, .int .i64 0, .bool false, undef, .map (some w2.heap.size), .slice A n c, .agg #[.map (some g1), .map (some g2)], .func (.func 75) #[] #[.pointer (some ⟨w4.heap.size, 0, none⟩)], .agg #[.string x.1, .string x.2], undef, undef, undef, undef, undef, undef, undef, undef, undef, undef, undef, undef, undef, undef, undef, undef, undef, undef, undef, undef, undef, undef, undef, undef, undef, undef, undef, undef, undef, undef, undef, undef, undef, undef, undef, undef, undef, undef, undef, undef, undef, undef], defers := [] })
    (fun x W => W.alloc (.cells #[.string x.1, .string x.2] 24)) (fun _ W => (Below.refl _ _).alloc (Nat.le_refl _) _) ?assign ?body ?done ?stop
  case assign =>
    intro m l x W K hK
    gi_wp2
    exact hK
  case body =>
    rintro mm ll T pre ⟨a, b⟩ W W2 ⟨v, e1, e2, e3, e4, eg⟩ hsp htb hlo hkW
    obtain ⟨Av, nv, cv, rfl⟩ := ownT_form e2
    have hW2 := hkW.size
    have hsW : (W.alloc (.cells #[.string a, .string b] 24)).heap.size = W.heap.size + 1 := by simp
    have S9 : W2.heap[W.heap.size]? = some (.cells #[.string a, .string b] 24) := hp_kept (heap_alloc_new W _) hkW (by omega)
    obtain ⟨q, hq⟩ : ∃ q, qOf l (a, b) = q := ⟨_, rfl⟩
    obtain ⟨out, hout⟩ : ∃ out, cellsF (qOf l) pre [] = out := ⟨_, rfl⟩
    have HQ : Hid (q.length = n) := Lib.hid (by rw [← hq]; unfold qOf; rw [List.length_map, HNL.out])
    have HSN := Lib.hid (cellsF_snoc (qOf l) (a, b) pre [])
    rw [hq, hout] at HSN
    rw [hout] at e2 e3
    have hol : out.length < 60000 := by
      have h1 := cellsF_len (qOf l) pre []
      have h2 := hsp.length_le
      have h3 := HLL.out
      rw [hout] at h1
      simp at h1 h2
      omega
    have HQG : Hid (∀ i ch, l[i]? = some ch → q[i]? = some (inC ch a b) ∧ formC ch = true) := Lib.hid fun i ch h => ⟨by rw [← hq]; unfold qOf; rw [List.getElem?_map, h]; rfl, formL_mem HK.out.1 (List.mem_of_getElem? h)⟩
    obtain ⟨W2a, hW2a, U1', hsza, hbWa⟩ := alloc_facts W2 (.cells (inA q 0 n) 4)
    obtain ⟨W3, hW3, U2, hsz3', hbWb⟩ := alloc_facts W2a (.cells (byA q 0 n) 5)
    have hszA : W2a.heap.size = W2.heap.size + 1 := by rw [← hW2a]; simp
    have hszB : W3.heap.size = W2a.heap.size + 1 := by rw [← hW3]; simp
    have U1 := hp_below U1' hbWb
    have hbW3 := hbWa.seq hbWb
    rw [hszA] at U2
    have hk5 := e4.size
    have S0 := hp_kept (hp_below HS1.out hb15) e4 (by omega)
    have p0 := blk1 S0
    have p2 := blk1 (hp_below S0 hbWa)
    have p1 := blk1 (hp_below S0 hbW3)
    have hmk1 := mk37 q n (by omega)
    have hmk2 := mk69 q n (by omega)
    have HW52 : Hid (Below w.heap.size w W2) := Lib.hid (HW5.out.trans (e4.below (by omega) (by intro k hk; omega)))
    have HE1 := Lib.hid e1; have HE2 := Lib.hid e2; have HE3 := Lib.hid e3; have HE4 := Lib.hid e4; have HS9 := Lib.hid S9; have HTB := Lib.hid htb
    have HU1 := Lib.hid U1; have HU2 := Lib.hid U2
    clear e1 e2 e3 e4 S9 S0 U1 U1' U2 hkW hsp htb hq hout
    gi_wp2
    clear hmk1 hmk2 p0 p2 p1
    gi_loopw [33] (fun s33 wr => ∃ i : Nat, i ≤ n ∧ s33 = .int .i64 i ∧ wr.heap[W2.heap.size]? = some (.cells (inA q i n) 4) ∧ wr.heap[W2.heap.size + 1]? = some (.cells (byA q i n) 5) ∧ Kept (fun k => k = W2.heap.size ∨ k = W2.heap.size + 1) W3 wr)
      (fun s33 _ => n - (intOf s33).toNat)
    case atStart => exact ⟨0, by omega, rfl, HU1.out, HU2.out, Kept.refl _ _⟩
    case round =>
      obtain ⟨i, hi, rfl, h1, h2, hkr⟩ := hrel
      have hszr := hkr.size
      have hbw : Below w.heap.size w wr := (HW52.out.trans (hbW3.mono (by omega))).trans (hkr.below (by omega) (by intro k hk; omega))
      have S9 := hp_kept (hp_below HS9.out hbW3) hkr (by omega)
      by_cases hlt : i < n
      · obtain ⟨b', off, ch, v0, v1, v2, v3, v4, v5, HXc, hrc, z0, z1, z2, z3, z4, z5, hix⟩ := HRO.out.roundB hbw hlt c
        have hd2 : decide (i < n) = true := by simp; omega
        obtain ⟨k3, ns3, nl3, s3, A3, n3, c03, A3', n3', c03', hcs⟩ := hrc.cells
        simp only [List.cons.injEq, and_true] at hcs
        obtain ⟨rfl, rfl, rfl, rfl, rfl, rfl⟩ := hcs
        obtain ⟨w6, hw6, S6, hsz6, hb6⟩ := alloc_facts wr (.cells #[.int .i64 k3, .string ns3, .string nl3, .string s3, .slice A3 n3 c03, .slice A3' n3' c03'] 28)
        obtain ⟨y0, y1, y2, y3, y4, y5⟩ := blk6 S6
        obtain ⟨r0, r1⟩ := blk2 (hp_below S9 hb6)
        obtain ⟨u, hu⟩ : ∃ u, inC ch a b = u := ⟨_, rfl⟩
        have hg := HQG.out i ch HXc.out
        rw [hu] at hg
        have HQI := Lib.hid hg.1
        have H46 : Hid (Calls Tryz.prog 46 #[.agg #[.int .i64 k3, .string ns3, .string nl3, .string s3, .slice A3 n3 c03, .slice A3' n3' c03'], .agg #[.string a, .string b]] w6 fun e w' => e = .returned (.bool u) ∧ Below w6.heap.size w6 w') := Lib.hid (has_val a b ch _ w6 _ (hrc.below (hb6.mono (by have := hbw.size; omega))) (by rw [hasC_eq _ _ _ hg.2, hu]))
        have hi37 := idx37 W2.heap.size n i hlt
        have hi69 := idx69 (W2.heap.size + 1) n i hlt
        have HA := Lib.hid (hp_below h1 hb6); have HB := Lib.hid (hp_below h2 hb6); have HKR := Lib.hid (hkr.trans (Kept.of_below hb6))
        clear S6 S9 hu hg h1 h2 hkr hbw
        cases u
        · gi_wp2_with (refine ⟨trivial, (fun h => by cases h), ?_⟩; gi_at_call 46; refine ((callsIn_wide.2 H46.out).inRound ll).mono ?_; rintro e w7 ⟨rfl, hb7⟩; have SA := hp_below HA.out hb7; have c0 := inA_cell SA HQ.out hlt; have f0 := frozen_of_row w7 W2.heap.size i _ _ SA; have HSA := Lib.hid SA; obtain ⟨w8, hw8⟩ : ∃ w8, w7.setCell ⟨W2.heap.size, i, none⟩ (.bool false) = w8 := ⟨_, rfl⟩; have SB : w8.heap[W2.heap.size]? = some (.cells (inA q (i + 1) n) 4) := (by rw [← hw8, hp_set SA, inA_set HQ.out HQI.out]); have HSB := Lib.hid SB; have c8 : w8.cell? ⟨W2.heap.size, i, none⟩ = some (.bool false) := inA_at SB HQ.out HQI.out; clear SA SB)
          go_roundw
          case rel => exact ⟨i + 1, by omega, by go_num, HSB.out, by rw [← hw8, byA_false HQ.out HQI.out]; exact hp_far (by omega) (hp_below HB.out hb7), by rw [← hw8]; exact (HKR.out.trans (Kept.of_below hb7)).setCell (p := ⟨W2.heap.size, i, none⟩) (.inl (.inl rfl)) _⟩
          case measure => simp [intOf]; omega
        · gi_wp2_with (refine ⟨trivial, (fun h => by cases h), ?_⟩; gi_at_call 46; refine ((callsIn_wide.2 H46.out).inRound ll).mono ?_; rintro e w7 ⟨rfl, hb7⟩; have SA := hp_below HA.out hb7; have c0 := inA_cell SA HQ.out hlt; have f0 := frozen_of_row w7 W2.heap.size i _ _ SA; have HSA := Lib.hid SA; obtain ⟨w8, hw8⟩ : ∃ w8, w7.setCell ⟨W2.heap.size, i, none⟩ (.bool true) = w8 := ⟨_, rfl⟩; have SB : w8.heap[W2.heap.size]? = some (.cells (inA q (i + 1) n) 4) := (by rw [← hw8, hp_set SA, inA_set HQ.out HQI.out]); have HSB := Lib.hid SB; have c8 : w8.cell? ⟨W2.heap.size, i, none⟩ = some (.bool true) := inA_at SB HQ.out HQI.out; have SC : w8.heap[W2.heap.size + 1]? = some (.cells (byA q i n) 5) := (by rw [← hw8]; exact hp_far (by omega) (hp_below HB.out hb7)); have HSC := Lib.hid SC; have d8 := byA_cell SC HQ.out hlt; have f8 := frozen_of_row w8 (W2.heap.size + 1) i _ _ SC; clear SA SB SC)
          go_roundw
          case rel => exact ⟨i + 1, by omega, by go_num, hp_far (by omega) HSB.out, by rw [hp_set HSC.out, byA_set HQ.out HQI.out], by rw [← hw8]; exact (((HKR.out.trans (Kept.of_below hb7)).setCell (p := ⟨W2.heap.size, i, none⟩) (.inl (.inl rfl)) _).setCell (p := ⟨W2.heap.size + 1, i, none⟩) (.inl (.inr rfl)) _)⟩
          case measure => simp [intOf]; omega
      · have hin : i = n := by omega
        rw [hin] at h1 h2
        have hd2 : decide (i < n) = false := by simp; omega
        have hbr : Below W2.heap.size W2 wr := hbW3.trans (hkr.below (by omega) (by intro k hk; omega))
        have hT2 := hp_below (hp_kept (hp_below HT2.out hb35) HE4.out (by omega)) hbr
        have x0 := blk1 hT2
        have HT2r := Lib.hid hT2
        have HMr : Hid (MapIs wr w2.heap.size stE (knO out)) := Lib.hid (HE3.out.below hbr)
        have hconv := run_key h2 HQ.out
        obtain ⟨fnd, hfnd⟩ : ∃ fnd, out.any (fun o => o.2 == q) = fnd := ⟨_, rfl⟩
        have hlk := run_look keyStr (mt := 61) (by kernel_rfl) (fun W => by kernel_rfl) HMr.out (keyS q) false
        rw [look_kn, hfnd] at hlk
        have hlk' : (Instr.lookup 61 (.map (some w2.heap.size)) (.string (keyS q)) false).run Tryz.prog wr = .ok (.bool fnd) wr := hlk
        have HFN := Lib.hid hfnd
        have HOr : Hid (OwnT wr (w5.heap.size + 2) T out (.slice Av nv cv)) := Lib.hid (HE2.out.keep (fun k _ hk hT => ⟨hT, hbr.block k hk⟩) hbr.size)
        have HC1 := Lib.hid (hp_below HE1.out hbr)
        have HN9 := Lib.hid S9
        have HB1 := Lib.hid h1
        have HBR := Lib.hid hbr
        have hszR := hbr.size
        clear hT2 hlk hfnd S9 h1 h2 hkr hbr
        cases fnd
        · gi_wp2_with (first
            | (with_reducible refine wpListIn_put rfl (.tmp 57) (.tmp 59) (.const (.bool true)) 61 rfl (et := 4) keyStr (by kernel_rfl) w2.heap.size (knO out) rfl HMr.out (keyS q) rfl true rfl ?_
               intro w8 m1 m2 m3 m4
               rw [put_kn q (a, b) out HFN.out] at m1
               have m3a : wr.heap.size ≤ w8.heap.size := by omega
               have m3b : w8.heap.size ≤ wr.heap.size := by omega
               clear m3
               obtain ⟨w9, hw9, S9c, hsz9, hb9⟩ := alloc_facts w8 (.cells #[.string a, .string b, .slice (some ⟨W2.heap.size, 0, none⟩) n n] 39)
               have c0 := blk1 ((m2 (w2.heap.size + 1 + 1) (by omega)).trans HC1.out)
               obtain ⟨r0, r1⟩ := blk2 ((m2 W.heap.size (by omega)).trans HN9.out)
               have c9 := blk1 (hp_below ((m2 (w2.heap.size + 1 + 1) (by omega)).trans HC1.out) hb9)
               obtain ⟨r90, r91⟩ := blk2 (hp_below ((m2 W.heap.size (by omega)).trans HN9.out) hb9)
               have HO9 : Hid (OwnT w9 (w5.heap.size + 2) T out (.slice Av nv cv)) := Lib.hid ((HOr.out.keep (fun k hk1 _ hT => ⟨hT, m2 k (by omega)⟩) (by omega)).keep (fun k _ hk hT => ⟨hT, hb9.block k hk⟩) hb9.size)
               have HS9c := Lib.hid S9c
               have HREP : Hid (RepCs w9 (fun k => (w5.heap.size + 2 ≤ k ∧ k < w9.heap.size ∧ some k ≠ (Value.slice Av nv cv).ownBlock) ∧ ¬ T k) (cellD ((a, b), q)) [.string a, .string b, .slice (some ⟨W2.heap.size, 0, none⟩) n n]) :=
                 Lib.hid (cellD_iff (inA_row (hp_below ((m2 W2.heap.size (by omega)).trans HB1.out) hb9) HQ.out ⟨⟨by omega, by omega, fun h => by have := (HE2.out.block _ h).2.1; omega⟩, fun h => by have := (HTB.out _ h).2; omega⟩) (by omega))
               have HM8 := Lib.hid m1; have HM2 := Lib.hid m2; have HM4 := Lib.hid m4
               clear S9c m1 m2 m4)
            | (refine wpListIn_ownT rfl (.tmp 60) (.tmp 64) rfl (w5.heap.size + 2) T out ((a, b), q) _ _ rfl HO9.out w8.heap.size 1 rfl HS9c.out ⟨rfl, (by intro u hu; simp only [List.mem_cons, List.not_mem_nil, or_false] at hu; rcases hu with rfl | rfl | rfl <;> rfl)⟩ HREP.out (by omega) (by omega) (fun k hk => by have := (HTB.out _ hk).2; omega) ?_
               rintro v10 w10 ho10 hk10
               obtain ⟨A9, n9, c9', rfl⟩ := ownT_form ho10
               have S10 := hp_kept (hp_below ((HM2.out (w2.heap.size + 1 + 1) (by omega)).trans HC1.out) hb9) hk10 (fun h => by have := (HE2.out.block _ h).1; omega)
               have g0 := blk1 S10
               have g1' := frozen_of_row w10 (w2.heap.size + 1 + 1) 0 _ _ S10
               have HS10 := Lib.hid S10; have HO10 := Lib.hid ho10; have HK10 := Lib.hid hk10
               clear S10 ho10 hk10))
          have hk10 := HK10.out.size
          refine ⟨?_, .slice A9 n9 c9', hp_set1 HS10.out, ?_, ?_, ?_, eg⟩
          · refine Kept.setCell (Kept.trans (b := w9) ?_ (keptImp HK10.out ?_)) (.inl (.inl ⟨?_, .inr rfl⟩)) _
            · exact ((Kept.of_below HBR.out).trans (keptImp HM4.out fun k h => .inl ⟨by omega, .inl h⟩)).trans (Kept.of_below hb9)
            · intro k h
              have := HE2.out.block _ h
              exact .inr ⟨this.1, this.2.2⟩
            · show w2.heap.size + 1 + 1 < w5.heap.size + 2; omega
          · rw [HSN.out, HFN.out]
            exact HO10.out.keep (fun k hk1 hk hT => ⟨hT, Below.heap_setCell _ _ _ _ (by show k ≠ w2.heap.size + 1 + 1; omega)⟩) (by simp [World.setCell])
          · rw [HSN.out, HFN.out]
            exact hp_far (by omega) (hp_kept (hp_below HM8.out hb9) HK10.out (fun h => by have := (HE2.out.block _ h).1; omega))
          · refine Kept.setCell ?_ (.inl (.inr rfl)) _
            exact keptInto (((HE4.out.trans (Kept.of_below HBR.out)).trans (keptImp HM4.out fun k h => .inl h)).trans (Kept.of_below hb9)) HK10.out (fun k hk h => by have := (HE2.out.block _ h).1; omega)
        · gi_wp2
          refine ⟨Kept.of_below HBR.out, .slice Av nv cv, HC1.out, ?_, ?_, HE4.out.trans (Kept.of_below HBR.out), eg⟩
          · rw [HSN.out, HFN.out]; exact HOr.out
          · rw [HSN.out, HFN.out]; exact HMr.out
  case done =>
    rintro T xs W rfl ⟨v, e1, e2, e3, e4, eg⟩ hK
    obtain ⟨Av, nv, cv, rfl⟩ := ownT_form e2
    have c0 := blk1 e1
    have hrow := OwnD.row e2.toD (by decide) (F := fun b => w5.heap.size + 2 ≤ b) (fun b hb _ => hb)
    have HRW := Lib.hid hrow
    have hbW : Below w.heap.size w W := HW5.out.trans (e4.below (by omega) (by intro k hk; omega))
    have HBW := Lib.hid hbW; have HKK := Lib.hid hK
    clear e1 e2 e3 e4 hrow hbW hK
    (try simp only [Exit.inBlock, Exit.then])
    gi_wp2
    refine ⟨by simp, .inl ⟨_, _, rfl, run_takeDeferred HKK.out, ?_⟩⟩
    have hk : Kept (fun k => k = w5.heap.size) W (W.putObj w5.heap.size (.deferred none)) := kept_putObj _ _ _ rfl
    refine ⟨.tuple #[.slice Av nv cv, .int .i64 0], by simp [results, Tryz.results9, go_sem], ?_⟩
    rw [HRF.out]
    obtain ⟨A', c', hv, hr, -, -⟩ := HRW.out
    injection hv with h1 h2 h3
    subst h1 h2 h3
    rw [List.length_map] at hr ⊢
    refine ⟨Av, _, cv, rfl, rfl, fun hp => ?_, keptBelow HBW.out (Nat.le_refl _) hk (by intro k hk; omega)⟩
    obtain ⟨b, off, hA, hb, hrr⟩ := hr hp
    have hsb : ∀ k, w5.heap.size + 2 ≤ k → (W.putObj w5.heap.size (.deferred none)).heap[k]? = W.heap[k]? := fun k hk => World.putObj_heap_other (by omega)
    exact ⟨b, off, hA, by omega, RepRow.keep (fun k hk => ⟨by omega, hsb k hk⟩) 3 _ b off (hsb b hb) hrr⟩
  case stop =>
    rintro c pre W hsp h hK
    exact h.elim
end Go.Proofs.YtfildbkkmnfekaaGreatDoor
