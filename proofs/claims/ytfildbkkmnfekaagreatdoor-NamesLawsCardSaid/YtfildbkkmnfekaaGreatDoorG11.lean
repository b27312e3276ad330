/- The candidates. truth. -/
import Derived.Test.YtfildbkkmnfekaaGreatDoorG09
import Derived.Test.YtfildbkkmnfekaaGreatDoorG10
import Derived.WalkKit
import Derived.WalkSpells
import Derived.WalkLawsBesides
import Derived.BigGuardPart
import Derived.Lib.Hide
import Derived.Deep.QuietTactic
import Derived.BigQuiet
import Derived.StillTailTactics
import Derived.Deep.DeepCutAuto
import Derived.Deep.CutBlock
import Derived.Laws.EntriesVeiled
namespace Go.Proofs.YtfildbkkmnfekaaGreatDoor
open Go.RowKit

theorem MenV.since {w w' : World} {gm : Nat} {m : Men} (h : MenV w gm m) (hb : Below w.heap.size w w') : MenV w' gm m := h.below hb
theorem OwnV.base {α : Type} {w : World} {base base' : Nat} {e : TypeId} {sz : Nat} {cells : α → List Value} {l : List α} {v : Value} (h : OwnV w base e sz cells l v) (hb : base' ≤ base) : OwnV w base' e sz cells l v := by
  refine ⟨h.1, ?_⟩
  rcases h.2 with h2 | ⟨g, cap, cur, rfl, hg, r⟩
  · exact .inl h2
  · exact .inr ⟨g, cap, cur, rfl, Nat.le_trans hb hg, r⟩
/-- What the walk reads of a Mentions block. -/
theorem MenV.facts {w : World} {gm : Nat} {m : Men} (h : MenV w gm m) : ∃ A n c A' n' c', w.heap[gm]? = some (.cells #[.slice A n c, .slice A' n' c'] 96) ∧ RowV w (· < w.heap.size) 2 nmV m.1 A n ∧ RowV w (· < w.heap.size) 1 strV m.2 A' n' ∧ n ≤ c ∧ n' ≤ c' ∧ gm < w.heap.size := by
  obtain ⟨A, n, c, A', n', c', hh, r1, r2, e1, e2, e3, e4⟩ := h
  exact ⟨A, n, c, A', n', c', hh, r1.here nmV_ne, r2.here strV_ne, e1, e3, hp_lt hh⟩
set_option maxHeartbeats 1000000 in
set_option maxRecDepth 100000 in
theorem refcand_any (l : List Cls) (A : Option Addr) (n c : Nat) (av : List Nm) (A' : Option Addr) (n' c' : Nat) (w : World) (F F' : Nat → Prop) (hrow0 : RowL w F l A n) (hav0 : RowV w F' 2 nmV av A' n') (hn : n < 1000000) (hn' : n' < 1000000) (hnum : numL l < 1000000) :
    Calls Tryz.prog 47 #[.slice A n c, .slice A' n' c'] w fun e w' => ∃ v, e = .returned v ∧ OwnV w' w.heap.size 24 2 nmV (candN (addL l ([], [])) av) v ∧ Below w.heap.size w w' := by
  have hav := Lib.hid (hav0.here nmV_ne)
  have hrow := Lib.hid hrow0
  clear hav0 hrow0
  obtain ⟨m, hm⟩ : ∃ m, addL l ([], []) = m := ⟨_, rfl⟩
  have hlen := addL_len l ([], [])
  rw [hm] at hlen ⊢
  have HL : Hid (m.1.length < 1000000 ∧ m.2.length < 1000000) := Lib.hid (by simp at hlen; omega)
  have HMM := Lib.hid hm
  clear hm hlen
  go_enter Tryz.func47, Tryz.ntmps47
  go_wp2_with fail
  refine (refmentioned_any l A n c w F hrow.out (by omega) (by omega)).mono ?_
  rintro e w1 ⟨gm, rfl, hmen, hb1⟩
  rw [HMM.out] at hmen
  obtain ⟨w2, hw2, hblk2, hsz2, hb2⟩ := alloc_facts w1 (.cells #[] 24)
  obtain ⟨D, k, d, D', k', d', S1, R1, R2, e1, e2, e3⟩ := (hmen.below hb2).facts
  have ho := OwnV.fresh (cells := nmV) (sz := 2) hblk2 (Nat.le_refl w1.heap.size)
  have hs := R1.src nm_len (by decide) k (Nat.le_refl k)
  have HLk := Lib.hid R1.len; have HLk' := Lib.hid R2.len
  rw [show m.1.take k = m.1 from List.take_of_length_le (by rw [HLk.out]; exact Nat.le_refl _)] at hs
  obtain ⟨a0, a1⟩ := blk2 S1
  have hk : k < 1000000 := by have := HLk.out; have := HL.out; omega
  have HM := Lib.hid hmen
  clear hblk2 S1 hmen
  go_wp2_with (first
    | (at_builtin; refine wpList_ownB rfl (.tmp 10) (.tmp 14) 48 rfl tyN nm_one w1.heap.size [] m.1 _ rfl ho D k d rfl hs HLk.out (by simp; omega) (by omega) ?_
       intro v1 u1 ho1 hc1
       have hb1u := hb2.trans hc1)
    | fail)
  clear a0 a1 hs ho R1 R2 hw2
  go_loopw [7, 6] (fun s7 s6 wr => ∃ i : Nat, i ≤ k' ∧ s7 = .int .i64 i ∧ OwnV wr w1.heap.size 24 2 nmV (m.1 ++ (m.2.take i).map (freshN m.1 av)) s6 ∧ Below w1.heap.size w1 wr)
    (fun s7 _ _ => k' - (intOf s7).toNat)
  case atStart => exact ⟨0, by omega, rfl, by simpa using ho1, hb1u⟩
  case round =>
    obtain ⟨i, hi, rfl, hov, hbr⟩ := hrel
    obtain ⟨D1, k1, d1, D2, k2, d2, S1, R1, R2, f1, f2, f3⟩ := (HM.out.below hbr).facts
    have hk2 : k2 = k' := by rw [HLk'.out, R2.len]
    subst hk2
    obtain ⟨a0, a1⟩ := blk2 S1
    have havr := hav.out.below (hb1.trans (hbr.mono hb1.size))
    have hks : k2 < 1000000 := by have := HLk'.out; have := HL.out; omega
    have hm1 : m.1.length < 2000000 := by have := HL.out; omega
    have hszr := hbr.size
    have HAV := Lib.hid havr
    have HO := Lib.hid hov
    clear S1 havr hov
    by_cases hlt : i < k2
    · obtain ⟨b', off, x, HX, p0, hix⟩ := R2.str hlt d2
      have hd : decide (i < k2) = true := by simp; omega
      have hF := firstOf_spec (freeN m.1 av x)
      have hFb : firstOf (takenN m.1 av x) < 100000000 := by have h1 := hF.2; have h2 := HL.out; have h3 := hav.out.len; rw [List.length_append] at h1; omega
      have HF := Lib.hid hF.1
      clear hF
      go_wp2_with fail
      refine (reffresh_any gm m x av A' n' c' wr _ (HM.out.below hbr) HAV.out hm1 (by omega) _ HF.out hFb).mono ?_
      rintro e w3 ⟨rfl, hb3⟩
      obtain ⟨w4, hw4, hblk4, hsz4, hb4⟩ := alloc_facts w3 (.cells #[.string x, .string (numB xB (firstOf (takenN m.1 av x)))] 24)
      have ho4 := (HO.out.keep hb3).keep hb4
      have hs4 := Src.block (sz := 2) (m := 1) (vs := [freshN m.1 av x].flatMap nmV) hblk4 rfl
      have hb14 := hbr.trans ((hb3.seq hb4).mono hszr)
      have hsz14 := hb14.size
      clear hblk4 a0 a1 p0
      go_wp2_with (first
        | (at_builtin; refine wpList_ownB rfl (.tmp 25) (.tmp 36) 48 rfl tyN nm_one w1.heap.size _ [freshN m.1 av x] _ rfl ho4 _ 1 1 rfl hs4 rfl (by have := HL.out; have := HLk'.out; simp; omega) hsz14 ?_
           intro v5 w5 ho5 hc5
           have hb15 := hb14.trans hc5)
        | fail)
      go_roundw
      case rel =>
        refine ⟨i + 1, by omega, by go_num, ?_, hb15⟩
        have h := HX.out
        obtain ⟨h1, rfl⟩ := List.getElem?_eq_some_iff.1 h
        rw [List.take_succ_eq_append_getElem h1, List.map_append, ← List.append_assoc]
        exact ho5
      case measure => simp [intOf]; omega
    · have hd : decide (i < k2) = false := by simp; omega
      have htk : m.2.take i = m.2 := List.take_of_length_le (by have := HLk'.out; omega)
      have HO2 : Hid (OwnV wr w1.heap.size 24 2 nmV (m.1 ++ m.2.map (freshN m.1 av)) u6) := Lib.hid (by have h := HO.out; rw [htk] at h; exact h)
      have hF := firstOf_spec (freeN m.1 av (newS m.2))
      have hFb : firstOf (takenN m.1 av (newS m.2)) < 100000000 := by have h1 := hF.2; have h2 := HL.out; have h3 := hav.out.len; rw [List.length_append] at h1; omega
      have hG := firstOf_spec (freeS m.2)
      have hGb : firstOf (takenS m.2) < 100000000 := by have h1 := hG.2; have h2 := HL.out; omega
      have HF := Lib.hid hF.1
      have HG := Lib.hid hG.1
      clear hF hG htk HO
      go_wp2_with fail
      refine (refnew_any gm m wr (HM.out.below hbr) (by have := HL.out; omega) _ HG.out hGb).mono ?_
      rintro e w3 ⟨rfl, hb3⟩
      go_wp2_with fail
      have hb13 := hbr.trans (hb3.mono hszr)
      refine (reffresh_any gm m (newS m.2) av A' n' c' w3 _ (HM.out.below hb13) (hav.out.below (hb1.trans (hb13.mono hb1.size))) hm1 (by omega) _ HF.out hFb).mono ?_
      rintro e w3' ⟨rfl, hb3'⟩
      obtain ⟨w4, hw4, hblk4, hsz4, hb4⟩ := alloc_facts w3' (.cells #[.string (newS m.2), .string (numB xB (firstOf (takenN m.1 av (newS m.2))))] 24)
      have ho4 := ((HO2.out.keep hb3).keep hb3').keep hb4
      have hs4 := Src.block (sz := 2) (m := 1) (vs := [freshN m.1 av (newS m.2)].flatMap nmV) hblk4 rfl
      have hb14 := hb13.trans ((hb3'.seq hb4).mono hb13.size)
      have hsz14 := hb14.size
      clear hblk4 a0 a1
      go_wp2_with (first
        | (at_builtin; refine wpList_ownB rfl (.tmp 38) (.tmp 44) 48 rfl tyN nm_one w1.heap.size _ [freshN m.1 av (newS m.2)] _ rfl ho4 _ 1 1 rfl hs4 rfl (by have := HL.out; simp; omega) hsz14 ?_
           intro v5 w5 ho5 hc5
           have hb15 := hb14.trans hc5)
        | fail)
      go_ret
      refine ⟨_, rfl, ?_, hb1.trans (hb15.mono hb1.size)⟩
      exact ho5.base hb1.size
end Go.Proofs.YtfildbkkmnfekaaGreatDoor
namespace Go.Proofs.YtfildbkkmnfekaaGreatDoor
open Go.RowKit

/-- Is a name in the combination, by whether it is in the two sets. -/
def truthB (how : Int) (x y : Bool) : Bool := if how = 1 then x || y else if how = 2 then x && y else if how = 3 then x && !y else x
theorem in_val {v : Bool} (a b : ByteArray) (c : Cls) (cs : List Value) (w : World) (F : Nat → Prop) (h : RepC w F c cs) (hv : inC c a b = v) :
    Calls Tryz.prog 48 #[.agg cs.toArray, .agg #[.string a, .string b]] w fun e w' => e = .returned (.bool v) ∧ Below w.heap.size w w' := by
  subst hv; exact in_any a b c cs w F h
theorem alloc3_facts (w : World) (o o' o'' : Obj) : ∃ w1, ((w.alloc o).alloc o').alloc o'' = w1 ∧ w1.heap[w.heap.size]? = some o ∧ w1.heap[w.heap.size + 1]? = some o' ∧ w1.heap[w.heap.size + 1 + 1]? = some o'' ∧ w.heap.size + 1 + 1 < w1.heap.size ∧ Below w.heap.size w w1 := by
  have e1 : (w.alloc o).heap.size = w.heap.size + 1 := by simp
  have e2 : ((w.alloc o).alloc o').heap.size = w.heap.size + 1 + 1 := by simp
  refine ⟨_, rfl, hp_alloc (hp_alloc (heap_alloc_new w o)), ?_, ?_, by simp, (((Below.refl _ _).alloc (Nat.le_refl _) _).alloc (by simp) _).alloc (by simp; omega) _⟩
  · rw [← e1]; exact hp_alloc (heap_alloc_new _ _)
  · rw [← e2]; exact heap_alloc_new _ _
theorem kind123 (k : Int) : (k == 1) = true ∨ ((k == 1) = false ∧ (k == 2) = true) ∨ ((k == 1) = false ∧ (k == 2) = false ∧ (k == 3) = true) ∨ ((k == 1) = false ∧ (k == 2) = false ∧ (k == 3) = false) := kind3 k
set_option maxHeartbeats 2000000 in
set_option maxRecDepth 100000 in
theorem truth_any (how : Int) (a b : ByteArray) (c1 c2 : Cls) (cs1 cs2 : List Value) (w : World) (F1 F2 : Nat → Prop) (hr1 : RepC w F1 c1 cs1) (hr2 : RepC w F2 c2 cs2) :
    Calls Tryz.prog 86 #[.int .i64 how, .agg cs1.toArray, .agg cs2.toArray, .agg #[.string a, .string b]] w fun e w' => e = .returned (.bool (truthB how (inC c1 a b) (inC c2 a b))) ∧ Below w.heap.size w w' := by
  obtain ⟨v1, hv1⟩ : ∃ v, inC c1 a b = v := ⟨_, rfl⟩
  obtain ⟨v2, hv2⟩ : ∃ v, inC c2 a b = v := ⟨_, rfl⟩
  rw [hv1, hv2]
  have HV1 := Lib.hid hv1; have HV2 := Lib.hid hv2
  clear hv1 hv2
  obtain ⟨k, ns, nl, s, ex, ar⟩ := c1
  obtain ⟨k2, ns2, nl2, s2, ex2, ar2⟩ := c2
  obtain ⟨A, n, c, A', n', c', rfl, -, -, -, -⟩ := hr1.form
  obtain ⟨B, m, d, B', m', d', rfl, -, -, -, -⟩ := hr2.form
  obtain ⟨w1, hw1, S1, S2, S3, hsz, hb1⟩ := alloc3_facts w (.cells #[.int .i64 k, .string ns, .string nl, .string s, .slice A n c, .slice A' n' c'] 28) (.cells #[.int .i64 k2, .string ns2, .string nl2, .string s2, .slice B m d, .slice B' m' d'] 28) (.cells #[.string a, .string b] 24)
  have HR1 := Lib.hid (hr1.here.below hb1); have HR2 := Lib.hid (hr2.here.below hb1)
  obtain ⟨p0, p1, p2, p3, p4, p5⟩ := blk6 S1
  obtain ⟨q0, q1, q2, q3, q4, q5⟩ := blk6 S2
  obtain ⟨r0, r1⟩ := blk2 S3
  have HS1 := Lib.hid S1; have HS2 := Lib.hid S2; have HS3 := Lib.hid S3
  clear S1 S2 S3 hr1 hr2
  have HT : Hid (∀ x y, truthB how x y = if (how == 1) then x || y else if (how == 2) then x && y else if (how == 3) then x && !y else x) := Lib.hid (by intro x y; unfold truthB; simp)
  rcases kind3 how with hk | ⟨hk, hk2⟩ | ⟨hk, hk2, hk3⟩ | ⟨hk, hk2, hk3⟩
  all_goals
    cases v1
    all_goals
      cases v2
      all_goals
        go_enter Tryz.func86, Tryz.ntmps86
        go_wp2_with fail
        refine (in_val a b _ _ w1 _ HR1.out HV1.out).mono ?_
        rintro e w2 ⟨rfl, hb2⟩
        clear p0 p1 p2 p3 p4 p5 q0 q1 q2 q3 q4 q5 r0 r1
        obtain ⟨q0, q1, q2, q3, q4, q5⟩ := blk6 (hp_below HS2.out hb2)
        obtain ⟨r0, r1⟩ := blk2 (hp_below HS3.out hb2)
        go_wp2_with fail
        first
          | (go_ret; exact ⟨ret_bool (by rw [HT.out]; simp [*]), hb1.seq hb2⟩)
          | (refine (in_val a b _ _ w2 _ (HR2.out.below (hb2.mono (by omega))) HV2.out).mono ?_
             rintro e w3 ⟨rfl, hb3⟩
             go_wp2_with fail
             go_ret
             exact ⟨ret_bool (by rw [HT.out]; simp [*]), hb1.seq (hb2.seq hb3)⟩)
end Go.Proofs.YtfildbkkmnfekaaGreatDoor
