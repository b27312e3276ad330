/- gabaritlaw01.shown returns true. -/
import Derived.Test.YtfildbkkmnfekaaGreatDoorShwP
import Derived.KernelRfl
import Derived.Deep.RegionHeld3
import Derived.WalkKit
import Derived.WalkSpells
import Derived.WalkLawsBesides
import Derived.BigGuardPart
import Derived.Lib.Hide
import Derived.Deep.QuietTactic
import Derived.BigQuiet
import Derived.StillTailTactics
import Derived.Deep.DeepCutAuto
import Derived.Deep.CutBlock
import Derived.Laws.EntriesVeiled
namespace Go.Proofs.YtfildbkkmnfekaaGreatDoor
open Go.RowKit

set_option maxHeartbeats 1000000 in
set_option maxRecDepth 100000 in
theorem name39_any (a b : ByteArray) (w : World) : Calls Tryz.prog 39 #[.string a, .string b] w fun e w' => e = .returned (.agg #[.int .i64 1, .string a, .string b, .string ⟨#[]⟩, .slice none 0 0, .slice none 0 0]) ∧ Below w.heap.size w w' := by
  obtain ⟨w1, hw1, S1, hsz1, hb1⟩ := alloc_facts w (.cells #[.int .i64 0, .string ⟨#[]⟩, .string ⟨#[]⟩, .string ⟨#[]⟩, .slice none 0 0, .slice none 0 0] 28)
  obtain ⟨f0, f1, f2, f3, f4, f5⟩ := frz6 S1
  obtain ⟨t0, t1, t2, t3, t4, t5⟩ := blk6 S1
  obtain ⟨wf, hwf, Sf, Hf, Kf, Zf⟩ := set6_facts (.int .i64 1) (.string a) (.string b) (.string ⟨#[]⟩) (.slice none 0 0) (.slice none 0 0) S1
  have hbf : Below w.heap.size w wf := Hf hb1 (Nat.le_refl _)
  obtain ⟨g0, g1, g2, g3, g4, g5⟩ := blk6 Sf
  clear Sf S1 Hf Kf Zf
  go_enter Tryz.func39, Tryz.ntmps39
  go_wp2_with fail
  (try simp only [Exit.inBlock, Exit.then])
  exact bodyPost_ret (v := .agg #[.int .i64 1, .string a, .string b, .string ⟨#[]⟩, .slice none 0 0, .slice none 0 0]) (by simp [results, Tryz.results39, go_sem, g0, g1, g2, g3, g4, g5]) rfl ⟨rfl, hbf⟩
set_option maxHeartbeats 1000000 in
set_option maxRecDepth 100000 in
theorem space41_any (s : ByteArray) (A : Option Addr) (n c : Nat) (w : World) : Calls Tryz.prog 41 #[.string s, .slice A n c] w fun e w' => e = .returned (.agg #[.int .i64 2, .string ⟨#[]⟩, .string ⟨#[]⟩, .string s, .slice A n c, .slice none 0 0]) ∧ Below w.heap.size w w' := by
  obtain ⟨w1, hw1, S1, hsz1, hb1⟩ := alloc_facts w (.cells #[.int .i64 0, .string ⟨#[]⟩, .string ⟨#[]⟩, .string ⟨#[]⟩, .slice none 0 0, .slice none 0 0] 28)
  obtain ⟨f0, f1, f2, f3, f4, f5⟩ := frz6 S1
  obtain ⟨t0, t1, t2, t3, t4, t5⟩ := blk6 S1
  obtain ⟨wf, hwf, Sf, Hf, Kf, Zf⟩ := set6_facts (.int .i64 2) (.string ⟨#[]⟩) (.string ⟨#[]⟩) (.string s) (.slice A n c) (.slice none 0 0) S1
  have hbf : Below w.heap.size w wf := Hf hb1 (Nat.le_refl _)
  obtain ⟨g0, g1, g2, g3, g4, g5⟩ := blk6 Sf
  clear Sf S1 Hf Kf Zf
  go_enter Tryz.func41, Tryz.ntmps41
  go_wp2_with fail
  (try simp only [Exit.inBlock, Exit.then])
  exact bodyPost_ret (v := .agg #[.int .i64 2, .string ⟨#[]⟩, .string ⟨#[]⟩, .string s, .slice A n c, .slice none 0 0]) (by simp [results, Tryz.results41, go_sem, g0, g1, g2, g3, g4, g5]) rfl ⟨rfl, hbf⟩
set_option maxHeartbeats 1000000 in
set_option maxRecDepth 100000 in
theorem all40_any (A : Option Addr) (n c : Nat) (w : World) : Calls Tryz.prog 40 #[.slice A n c] w fun e w' => e = .returned (.agg #[.int .i64 3, .string ⟨#[]⟩, .string ⟨#[]⟩, .string ⟨#[]⟩, .slice A n c, .slice none 0 0]) ∧ Below w.heap.size w w' := by
  obtain ⟨w1, hw1, S1, hsz1, hb1⟩ := alloc_facts w (.cells #[.int .i64 0, .string ⟨#[]⟩, .string ⟨#[]⟩, .string ⟨#[]⟩, .slice none 0 0, .slice none 0 0] 28)
  obtain ⟨f0, f1, f2, f3, f4, f5⟩ := frz6 S1
  obtain ⟨t0, t1, t2, t3, t4, t5⟩ := blk6 S1
  obtain ⟨wf, hwf, Sf, Hf, Kf, Zf⟩ := set6_facts (.int .i64 3) (.string ⟨#[]⟩) (.string ⟨#[]⟩) (.string ⟨#[]⟩) (.slice A n c) (.slice none 0 0) S1
  have hbf : Below w.heap.size w wf := Hf hb1 (Nat.le_refl _)
  obtain ⟨g0, g1, g2, g3, g4, g5⟩ := blk6 Sf
  clear Sf S1 Hf Kf Zf
  go_enter Tryz.func40, Tryz.ntmps40
  go_wp2_with fail
  (try simp only [Exit.inBlock, Exit.then])
  exact bodyPost_ret (v := .agg #[.int .i64 3, .string ⟨#[]⟩, .string ⟨#[]⟩, .string ⟨#[]⟩, .slice A n c, .slice none 0 0]) (by simp [results, Tryz.results40, go_sem, g0, g1, g2, g3, g4, g5]) rfl ⟨rfl, hbf⟩
set_option maxHeartbeats 1000000 in
set_option maxRecDepth 100000 in
theorem choice38_any (A : Option Addr) (n c : Nat) (w : World) : Calls Tryz.prog 38 #[.slice A n c] w fun e w' => e = .returned (.agg #[.int .i64 4, .string ⟨#[]⟩, .string ⟨#[]⟩, .string ⟨#[]⟩, .slice none 0 0, .slice A n c]) ∧ Below w.heap.size w w' := by
  obtain ⟨w1, hw1, S1, hsz1, hb1⟩ := alloc_facts w (.cells #[.int .i64 0, .string ⟨#[]⟩, .string ⟨#[]⟩, .string ⟨#[]⟩, .slice none 0 0, .slice none 0 0] 28)
  obtain ⟨f0, f1, f2, f3, f4, f5⟩ := frz6 S1
  obtain ⟨t0, t1, t2, t3, t4, t5⟩ := blk6 S1
  obtain ⟨wf, hwf, Sf, Hf, Kf, Zf⟩ := set6_facts (.int .i64 4) (.string ⟨#[]⟩) (.string ⟨#[]⟩) (.string ⟨#[]⟩) (.slice none 0 0) (.slice A n c) S1
  have hbf : Below w.heap.size w wf := Hf hb1 (Nat.le_refl _)
  obtain ⟨g0, g1, g2, g3, g4, g5⟩ := blk6 Sf
  clear Sf S1 Hf Kf Zf
  go_enter Tryz.func38, Tryz.ntmps38
  go_wp2_with fail
  (try simp only [Exit.inBlock, Exit.then])
  exact bodyPost_ret (v := .agg #[.int .i64 4, .string ⟨#[]⟩, .string ⟨#[]⟩, .string ⟨#[]⟩, .slice none 0 0, .slice A n c]) (by simp [results, Tryz.results38, go_sem, g0, g1, g2, g3, g4, g5]) rfl ⟨rfl, hbf⟩
theorem SameClass_val {v : Bool} (x y : Cls) (cs cs' : List Value) (w : World) (F F' : Nat → Prop) (hr : RepC w F x cs) (hr' : RepC w F' y cs') (hv : sameC 40 x y = v) :
    Calls Tryz.prog 36 #[.agg cs.toArray, .agg cs'.toArray] w fun e w' => e = .returned (.bool v) ∧ Below w.heap.size w w' := by subst hv; exact SameClass_any x y cs cs' w F F' hr hr'
theorem nC_rep (a b : ByteArray) (w : World) (F : Nat → Prop) : RepC w F (nC a b) [.int .i64 1, .string a, .string b, .string ⟨#[]⟩, .slice none 0 0, .slice none 0 0] := nmC_rep (a, b) w F none none 0 0
/-- A row of three classes, laid in one block. -/
theorem RowL.three {w : World} {F : Nat → Prop} {c1 c2 c3 : Cls} {a0 a1 a2 a3 a4 a5 b0 b1 b2 b3 b4 b5 d0 d1 d2 d3 d4 d5 : Value} {g : Nat} {t : TypeId} {fr : Nat × Nat} (h1 : RepC w F c1 [a0, a1, a2, a3, a4, a5]) (h2 : RepC w F c2 [b0, b1, b2, b3, b4, b5]) (h3 : RepC w F c3 [d0, d1, d2, d3, d4, d5])
    (hg : w.heap[g]? = some (.cells #[a0, a1, a2, a3, a4, a5, b0, b1, b2, b3, b4, b5, d0, d1, d2, d3, d4, d5] t fr)) (hF : F g) : RowL w F [c1, c2, c3] (some ⟨g, 0, none⟩) 3 := by
  refine ⟨rfl, fun _ => ⟨g, 0, rfl, hF, ?_⟩⟩
  rw [RepR, RepR, RepR, RepR]
  refine ⟨⟨_, fun j u hu => ?_, h1⟩, ⟨_, fun j u hu => ?_, h2⟩, ⟨_, fun j u hu => ?_, h3⟩, trivial⟩
  all_goals
    rw [cell_of_row w g _ _ _ _ hg, ← hu]
    have : j < 6 := (List.getElem?_eq_some_iff.1 hu).1
    match j, this with
    | 0, _ => rfl
    | 1, _ => rfl
    | 2, _ => rfl
    | 3, _ => rfl
    | 4, _ => rfl
    | 5, _ => rfl
theorem row3_rep {w : World} {g : Nat} {fr : Nat × Nat} {a b c d e f : ByteArray} (h : w.heap[g]? = some (.cells #[.int .i64 1, .string a, .string b, .string ⟨#[]⟩, .slice none 0 0, .slice none 0 0, .int .i64 1, .string c, .string d, .string ⟨#[]⟩, .slice none 0 0, .slice none 0 0, .int .i64 1, .string e, .string f, .string ⟨#[]⟩, .slice none 0 0, .slice none 0 0] 28 fr)) :
    RepC w (fun _ => True) (chC [nC a b, nC c d, nC e f]) [.int .i64 4, .string ⟨#[]⟩, .string ⟨#[]⟩, .string ⟨#[]⟩, .slice none 0 0, .slice (some ⟨g, 0, none⟩) 3 3] :=
  RepC.mk' (RowL.nil _ _ _) (RowL.three (nC_rep a b _ _) (nC_rep c d _ _) (nC_rep e f _ _) h trivial) (by omega) (by omega)
theorem all_rep {w : World} {g : Nat} {fr : Nat × Nat} {c : Cls} {cs : List Value} (hc : RepC w (fun _ => True) c cs) (h : w.heap[g]? = some (.cells cs.toArray 28 fr)) :
    RepC w (fun _ => True) (anyC [c]) [.int .i64 3, .string ⟨#[]⟩, .string ⟨#[]⟩, .string ⟨#[]⟩, .slice (some ⟨g, 0, none⟩) 1 1, .slice none 0 0] :=
  RepC.mk' (RowL.one hc h trivial) (RowL.nil _ _ _) (by omega) (by omega)
theorem sC_rep (s : ByteArray) (w : World) : RepC w (fun _ => True) (sC s []) [.int .i64 2, .string ⟨#[]⟩, .string ⟨#[]⟩, .string s, .slice none 0 0, .slice none 0 0] :=
  RepC.mk' (RowL.nil _ _ _) (RowL.nil _ _ _) (by omega) (by omega)
theorem sC1_rep {w : World} {g : Nat} {fr : Nat × Nat} {c : Cls} {cs : List Value} (s : ByteArray) (hc : RepC w (fun _ => True) c cs) (h : w.heap[g]? = some (.cells cs.toArray 28 fr)) :
    RepC w (fun _ => True) (sC s [c]) [.int .i64 2, .string ⟨#[]⟩, .string ⟨#[]⟩, .string s, .slice (some ⟨g, 0, none⟩) 1 1, .slice none 0 0] :=
  RepC.mk' (RowL.one hc h trivial) (RowL.nil _ _ _) (by omega) (by omega)
theorem anyE_rep (w : World) : RepC w (fun _ => True) (anyC []) [.int .i64 3, .string ⟨#[]⟩, .string ⟨#[]⟩, .string ⟨#[]⟩, .slice none 0 0, .slice none 0 0] :=
  RepC.mk' (RowL.nil _ _ _) (RowL.nil _ _ _) (by omega) (by omega)
theorem row1_nm {w : World} {g : Nat} {fr : Nat × Nat} {a b : ByteArray} (h : w.heap[g]? = some (.cells #[.string a, .string b] 24 fr)) : RowV w (fun _ => True) 2 nmV [(a, b)] (some ⟨g, 0, none⟩) 1 := by
  refine ⟨rfl, fun _ => ⟨g, 0, rfl, trivial, fun i x hx => ?_⟩⟩
  match i, hx with
  | 0, hx =>
    obtain rfl : (a, b) = x := by simpa using hx
    intro j v hv
    rw [cell_of_row w g _ _ _ _ h]
    simpa [nmV] using hv
theorem row5_cells {w W : World} {F : Nat → Prop} {b o : Nat} (h : RepRow w F 3 (cells5.map cellD) b o) (hb : Below w.heap.size w W) :
    W.cell? ⟨b, o + 3, none⟩ = some (.string ⟨#[97]⟩) ∧ W.cell? ⟨b, o + 3 + 1, none⟩ = some (.string ⟨#[120, 49]⟩) := by
  obtain ⟨cs, hc, hr⟩ := h.get 1 (cellD ((aB, x1B), [false, true])) rfl
  unfold cellD at hr
  simp only [RepCs.cons_iff, RepCs.nil_iff, RepV.val_iff] at hr
  obtain ⟨_, _, rfl, rfl, _, _, rfl, rfl, _⟩ := hr
  have h0 := hc 0 _ rfl
  have h1 := hc 1 _ rfl
  rw [show o + 1 * 3 + 0 = o + 3 by omega] at h0
  rw [show o + 1 * 3 + 1 = o + 3 + 1 by omega] at h1
  exact ⟨(hb.cell (World.block_lt_of_cell? w _ h0)).trans h0, (hb.cell (World.block_lt_of_cell? w _ h1)).trans h1⟩
set_option maxHeartbeats 4000000 in
set_option maxRecDepth 100000 in
theorem shown_any (w : World) (hT : Tab w) : Calls Tryz.prog 7 #[] w fun e w' => e = .returned (.bool true) ∧ Below w.heap.size w w' := by
  have HT0 := Lib.hid hT
  clear hT
  go_enter Tryz.func7, Tryz.ntmps7
  go_wp2_with fail
  refine (name39_any _ _ _).mono ?_
  rintro e w1 ⟨rfl, hb1⟩
  have hB1 := Lib.hid hb1
  have hs1 := hb1.size
  have HT1 := Lib.hid (HT0.out.below hb1)
  go_wp2_with fail
  refine (name39_any _ _ _).mono ?_
  rintro e w2 ⟨rfl, hb2⟩
  have hB2 := Lib.hid (hB1.out.seq hb2)
  have hs2 := hb2.size
  have HT2 := Lib.hid (HT1.out.below hb2)
  go_wp2_with fail
  refine (name39_any _ _ _).mono ?_
  rintro e w3 ⟨rfl, hb3⟩
  have hB3 := Lib.hid (hB2.out.seq hb3)
  have hs3 := hb3.size
  have HT3 := Lib.hid (HT2.out.below hb3)
  obtain ⟨w4, hw4, S4, hsz4, hb4⟩ := alloc_facts w3 (.cells #[.int .i64 1, .string ⟨#[97]⟩, .string ⟨#[120]⟩, .string ⟨#[]⟩, .slice none 0 0, .slice none 0 0, .int .i64 1, .string ⟨#[98]⟩, .string ⟨#[121]⟩, .string ⟨#[]⟩, .slice none 0 0, .slice none 0 0, .int .i64 1, .string ⟨#[97]⟩, .string ⟨#[98]⟩, .string ⟨#[]⟩, .slice none 0 0, .slice none 0 0] 28)
  have HS4 := Lib.hid S4
  clear S4
  have hB4 := Lib.hid (hB3.out.seq hb4)
  have hs4 := hb4.size
  have HT4 := Lib.hid (HT3.out.below hb4)
  go_wp2_with fail
  refine (choice38_any _ _ _ _).mono ?_
  rintro e w5 ⟨rfl, hb5⟩
  have hB5 := Lib.hid (hB4.out.seq hb5)
  have hs5 := hb5.size
  have HT5 := Lib.hid (HT4.out.below hb5)
  go_wp2_with fail
  have q6 := Normal_any in1 _ w5 _ (row3_rep (hp_below HS4.out hb5)) HT5.out
  rw [shown1] at q6
  refine q6.mono ?_
  rintro e w6 ⟨cs6, rfl, hr6, hb6⟩
  obtain ⟨k6, ns6, nl6, s6, A6, n6, c06, A6', n6', c06', rfl⟩ := hr6.cells
  have HR6 := Lib.hid hr6
  clear hr6 q6
  have hB6 := Lib.hid (hB5.out.seq hb6)
  have hs6 := hb6.size
  have HT6 := Lib.hid (HT5.out.below hb6)
  obtain ⟨w7, hw7, S7, hsz7, hb7⟩ := alloc_facts w6 (.cells #[.int .i64 k6, .string ns6, .string nl6, .string s6, .slice A6 n6 c06, .slice A6' n6' c06'] 28)
  have HS7 := Lib.hid S7
  clear S7
  have hB7 := Lib.hid (hB6.out.seq hb7)
  have hs7 := hb7.size
  have HT7 := Lib.hid (HT6.out.below hb7)
  go_wp2_with fail
  refine (space41_any _ _ _ _ _).mono ?_
  rintro e w8 ⟨rfl, hb8⟩
  have hB8 := Lib.hid (hB7.out.seq hb8)
  have hs8 := hb8.size
  have HT8 := Lib.hid (HT7.out.below hb8)
  obtain ⟨w9, hw9, S9, hsz9, hb9⟩ := alloc_facts w8 (.cells #[.int .i64 2, .string ⟨#[]⟩, .string ⟨#[]⟩, .string ⟨#[97]⟩, .slice none 0 0, .slice none 0 0] 28)
  have HS9 := Lib.hid S9
  clear S9
  have hB9 := Lib.hid (hB8.out.seq hb9)
  have hs9 := hb9.size
  have HT9 := Lib.hid (HT8.out.below hb9)
  go_wp2_with fail
  refine (all40_any _ _ _ _).mono ?_
  rintro e w10 ⟨rfl, hb10⟩
  have hB10 := Lib.hid (hB9.out.seq hb10)
  have hs10 := hb10.size
  have HT10 := Lib.hid (HT9.out.below hb10)
  go_wp2_with fail
  refine (name39_any _ _ _).mono ?_
  rintro e w11 ⟨rfl, hb11⟩
  have hB11 := Lib.hid (hB10.out.seq hb11)
  have hs11 := hb11.size
  have HT11 := Lib.hid (HT10.out.below hb11)
  go_wp2_with fail
  have q12 := Join_any all2 (nC aB xB) _ _ w11 _ _ (all_rep (sC_rep aB _) (hp_below (hp_below HS9.out hb10) hb11)) (nC_rep aB xB _ (fun _ => True)) HT11.out
  rw [shown2] at q12
  refine q12.mono ?_
  rintro e w12 ⟨cs12, rfl, hr12, hb12⟩
  obtain ⟨k12, ns12, nl12, s12, A12, n12, c012, A12', n12', c012', rfl⟩ := hr12.cells
  have HR12 := Lib.hid hr12
  clear hr12 q12
  have hB12 := Lib.hid (hB11.out.seq hb12)
  have hs12 := hb12.size
  have HT12 := Lib.hid (HT11.out.below hb12)
  obtain ⟨w13, hw13, S13, hsz13, hb13⟩ := alloc_facts w12 (.cells #[.int .i64 k12, .string ns12, .string nl12, .string s12, .slice A12 n12 c012, .slice A12' n12' c012'] 28)
  have HS13 := Lib.hid S13
  clear S13
  have hB13 := Lib.hid (hB12.out.seq hb13)
  have hs13 := hb13.size
  have HT13 := Lib.hid (HT12.out.below hb13)
  go_wp2_with fail
  refine (name39_any _ _ _).mono ?_
  rintro e w14 ⟨rfl, hb14⟩
  have hB14 := Lib.hid (hB13.out.seq hb14)
  have hs14 := hb14.size
  have HT14 := Lib.hid (HT13.out.below hb14)
  go_wp2_with fail
  refine (all40_any _ _ _ _).mono ?_
  rintro e w15 ⟨rfl, hb15⟩
  have hB15 := Lib.hid (hB14.out.seq hb15)
  have hs15 := hb15.size
  have HT15 := Lib.hid (HT14.out.below hb15)
  go_wp2_with fail
  have q16 := Minus_any (nC aB xB) (anyC []) _ _ w15 _ _ (nC_rep aB xB _ (fun _ => True)) (anyE_rep _) HT15.out
  rw [shown3] at q16
  refine q16.mono ?_
  rintro e w16 ⟨cs16, rfl, hr16, hb16⟩
  obtain ⟨k16, ns16, nl16, s16, A16, n16, c016, A16', n16', c016', rfl⟩ := hr16.cells
  have HR16 := Lib.hid hr16
  clear hr16 q16
  have hB16 := Lib.hid (hB15.out.seq hb16)
  have hs16 := hb16.size
  have HT16 := Lib.hid (HT15.out.below hb16)
  obtain ⟨w17, hw17, S17, hsz17, hb17⟩ := alloc_facts w16 (.cells #[.int .i64 k16, .string ns16, .string nl16, .string s16, .slice A16 n16 c016, .slice A16' n16' c016'] 28)
  have HS17 := Lib.hid S17
  clear S17
  have hB17 := Lib.hid (hB16.out.seq hb17)
  have hs17 := hb17.size
  have HT17 := Lib.hid (HT16.out.below hb17)
  go_wp2_with fail
  refine (space41_any _ _ _ _ _).mono ?_
  rintro e w18 ⟨rfl, hb18⟩
  have hB18 := Lib.hid (hB17.out.seq hb18)
  have hs18 := hb18.size
  have HT18 := Lib.hid (HT17.out.below hb18)
  obtain ⟨w19, hw19, S19, hsz19, hb19⟩ := alloc_facts w18 (.cells #[.int .i64 2, .string ⟨#[]⟩, .string ⟨#[]⟩, .string ⟨#[97]⟩, .slice none 0 0, .slice none 0 0] 28)
  have HS19 := Lib.hid S19
  clear S19
  have hB19 := Lib.hid (hB18.out.seq hb19)
  have hs19 := hb19.size
  have HT19 := Lib.hid (HT18.out.below hb19)
  go_wp2_with fail
  refine (all40_any _ _ _ _).mono ?_
  rintro e w20 ⟨rfl, hb20⟩
  have hB20 := Lib.hid (hB19.out.seq hb20)
  have hs20 := hb20.size
  have HT20 := Lib.hid (HT19.out.below hb20)
  go_wp2_with fail
  have q21 := Witness_any all2 _ [] none 0 0 w20 (fun _ => True) (fun _ => True) (all_rep (sC_rep aB _) (hp_below HS19.out hb20)) (RowV.nil _ _ _ _ _) (by omega) HT20.out
  rw [shown4] at q21
  refine q21.mono ?_
  rintro e w21 ⟨rfl, hb21⟩
  clear q21
  have hB21 := Lib.hid (hB20.out.seq hb21)
  have hs21 := hb21.size
  have HT21 := Lib.hid (HT20.out.below hb21)
  obtain ⟨w22, hw22, S22, hsz22, hb22⟩ := alloc_facts w21 (.cells #[.string ⟨#[117]⟩, .string ⟨#[120]⟩] 24)
  have HS22 := Lib.hid S22
  clear S22
  have hB22 := Lib.hid (hB21.out.seq hb22)
  have hs22 := hb22.size
  have HT22 := Lib.hid (HT21.out.below hb22)
  go_wp2_with fail
  refine (name39_any _ _ _).mono ?_
  rintro e w23 ⟨rfl, hb23⟩
  have hB23 := Lib.hid (hB22.out.seq hb23)
  have hs23 := hb23.size
  have HT23 := Lib.hid (HT22.out.below hb23)
  go_wp2_with fail
  refine (space41_any _ _ _ _ _).mono ?_
  rintro e w24 ⟨rfl, hb24⟩
  have hB24 := Lib.hid (hB23.out.seq hb24)
  have hs24 := hb24.size
  have HT24 := Lib.hid (HT23.out.below hb24)
  obtain ⟨w25, hw25, S25, hsz25, hb25⟩ := alloc_facts w24 (.cells #[.int .i64 1, .string ⟨#[97]⟩, .string ⟨#[120]⟩, .string ⟨#[]⟩, .slice none 0 0, .slice none 0 0, .int .i64 2, .string ⟨#[]⟩, .string ⟨#[]⟩, .string ⟨#[97]⟩, .slice none 0 0, .slice none 0 0] 28)
  have HS25 := Lib.hid S25
  clear S25
  have hB25 := Lib.hid (hB24.out.seq hb25)
  have hs25 := hb25.size
  have HT25 := Lib.hid (HT24.out.below hb25)
  go_wp2_with fail
  have q26 := Cells_any [nC aB xB, sC aB []] (some ⟨w24.heap.size, 0, none⟩) 2 2 w25 (fun _ => True) (RowL.two (nC_rep aB xB _ _) (sC_rep aB _) HS25.out trivial) (by omega) HT25.out
  rw [shown5] at q26
  refine q26.mono ?_
  rintro e w26 ⟨A5, n5, c5, rfl, hn5, hr5, hb26⟩
  clear q26
  obtain rfl : n5 = 3 := hn5
  obtain ⟨b5, o5, rfl, -, hrow5⟩ := hr5 (by omega)
  have HR5 := Lib.hid hrow5
  clear hr5 hrow5
  have hB26 := Lib.hid (hB25.out.seq hb26)
  have hs26 := hb26.size
  have HT26 := Lib.hid (HT25.out.below hb26)
  go_wp2_with fail
  refine (name39_any _ _ _).mono ?_
  rintro e w27 ⟨rfl, hb27⟩
  have hB27 := Lib.hid (hB26.out.seq hb27)
  have hs27 := hb27.size
  have HT27 := Lib.hid (HT26.out.below hb27)
  obtain ⟨w28, hw28, S28, hsz28, hb28⟩ := alloc_facts w27 (.cells #[.string ⟨#[97]⟩, .string ⟨#[120]⟩] 24)
  have HS28 := Lib.hid S28
  clear S28
  have hB28 := Lib.hid (hB27.out.seq hb28)
  have hs28 := hb28.size
  have HT28 := Lib.hid (HT27.out.below hb28)
  go_wp2_with fail
  have q29 := Witness_any (nC aB xB) _ [(aB, xB)] (some ⟨w27.heap.size, 0, none⟩) 1 1 w28 (fun _ => True) (fun _ => True) (nC_rep aB xB _ _) (row1_nm HS28.out) (by omega) HT28.out
  rw [shown6] at q29
  refine q29.mono ?_
  rintro e w29 ⟨rfl, hb29⟩
  clear q29
  have hB29 := Lib.hid (hB28.out.seq hb29)
  have hs29 := hb29.size
  have HT29 := Lib.hid (HT28.out.below hb29)
  go_wp2_with fail
  obtain ⟨w30, hw30, S30, hsz30, hb30⟩ := alloc_facts w29 (.cells #[.string ⟨#[]⟩, .string ⟨#[]⟩] 24)
  rw [hw30]
  have HS30 := Lib.hid S30
  clear S30
  have hB30 := Lib.hid (hB29.out.seq hb30)
  have hs30 := hb30.size
  have HT30 := Lib.hid (HT29.out.below hb30)
  have HG6 : Hid (∀ W, Below w30.heap.size w30 W → W.heap[w6.heap.size]? = some (.cells #[.int .i64 k6, .string ns6, .string nl6, .string s6, .slice A6 n6 c06, .slice A6' n6' c06'] 28)) := Lib.hid fun W h => hp_below HS7.out (((((((((((((((((((((((hb8.seq hb9).seq hb10).seq hb11).seq hb12).seq hb13).seq hb14).seq hb15).seq hb16).seq hb17).seq hb18).seq hb19).seq hb20).seq hb21).seq hb22).seq hb23).seq hb24).seq hb25).seq hb26).seq hb27).seq hb28).seq hb29).seq hb30).seq h)
  have HQ6 : Hid (∀ W, Below w30.heap.size w30 W → RepC W (fun _ => True) out1 [.int .i64 k6, .string ns6, .string nl6, .string s6, .slice A6 n6 c06, .slice A6' n6' c06']) := Lib.hid fun W h => (HR6.out.keepF ((((((((((((((((((((((((hb7.seq hb8).seq hb9).seq hb10).seq hb11).seq hb12).seq hb13).seq hb14).seq hb15).seq hb16).seq hb17).seq hb18).seq hb19).seq hb20).seq hb21).seq hb22).seq hb23).seq hb24).seq hb25).seq hb26).seq hb27).seq hb28).seq hb29).seq hb30).seq h)).wide (fun _ _ _ => trivial)
  have HG12 : Hid (∀ W, Below w30.heap.size w30 W → W.heap[w12.heap.size]? = some (.cells #[.int .i64 k12, .string ns12, .string nl12, .string s12, .slice A12 n12 c012, .slice A12' n12' c012'] 28)) := Lib.hid fun W h => hp_below HS13.out (((((((((((((((((hb14.seq hb15).seq hb16).seq hb17).seq hb18).seq hb19).seq hb20).seq hb21).seq hb22).seq hb23).seq hb24).seq hb25).seq hb26).seq hb27).seq hb28).seq hb29).seq hb30).seq h)
  have HQ12 : Hid (∀ W, Below w30.heap.size w30 W → RepC W (fun _ => True) out2 [.int .i64 k12, .string ns12, .string nl12, .string s12, .slice A12 n12 c012, .slice A12' n12' c012']) := Lib.hid fun W h => (HR12.out.keepF ((((((((((((((((((hb13.seq hb14).seq hb15).seq hb16).seq hb17).seq hb18).seq hb19).seq hb20).seq hb21).seq hb22).seq hb23).seq hb24).seq hb25).seq hb26).seq hb27).seq hb28).seq hb29).seq hb30).seq h)).wide (fun _ _ _ => trivial)
  have HG16 : Hid (∀ W, Below w30.heap.size w30 W → W.heap[w16.heap.size]? = some (.cells #[.int .i64 k16, .string ns16, .string nl16, .string s16, .slice A16 n16 c016, .slice A16' n16' c016'] 28)) := Lib.hid fun W h => hp_below HS17.out (((((((((((((hb18.seq hb19).seq hb20).seq hb21).seq hb22).seq hb23).seq hb24).seq hb25).seq hb26).seq hb27).seq hb28).seq hb29).seq hb30).seq h)
  have HQ16 : Hid (∀ W, Below w30.heap.size w30 W → RepC W (fun _ => True) out3 [.int .i64 k16, .string ns16, .string nl16, .string s16, .slice A16 n16 c016, .slice A16' n16' c016']) := Lib.hid fun W h => (HR16.out.keepF ((((((((((((((hb17.seq hb18).seq hb19).seq hb20).seq hb21).seq hb22).seq hb23).seq hb24).seq hb25).seq hb26).seq hb27).seq hb28).seq hb29).seq hb30).seq h)).wide (fun _ _ _ => trivial)
  have HG21 : Hid (∀ W, Below w30.heap.size w30 W → W.heap[w21.heap.size]? = some (.cells #[.string ⟨#[117]⟩, .string ⟨#[120]⟩] 24)) := Lib.hid fun W h => hp_below HS22.out ((((((((hb23.seq hb24).seq hb25).seq hb26).seq hb27).seq hb28).seq hb29).seq hb30).seq h)
  have HC5 : Hid (∀ W, Below w30.heap.size w30 W → W.cell? ⟨b5, o5 + 3, none⟩ = some (.string ⟨#[97]⟩) ∧ W.cell? ⟨b5, o5 + 3 + 1, none⟩ = some (.string ⟨#[120, 49]⟩)) := Lib.hid fun W h => row5_cells HR5.out ((((hb27.seq hb28).seq hb29).seq hb30).seq h)
  have HSB : Hid (∀ W, Below w30.heap.size w30 W → (Below w30.heap.size w30 W ∧ W.cell? ⟨w6.heap.size, 0, none⟩ = some (.int .i64 k6) ∧ W.cell? ⟨w6.heap.size, 1, none⟩ = some (.string ns6) ∧ W.cell? ⟨w6.heap.size, 2, none⟩ = some (.string nl6) ∧ W.cell? ⟨w6.heap.size, 3, none⟩ = some (.string s6) ∧ W.cell? ⟨w6.heap.size, 4, none⟩ = some (.slice A6 n6 c06) ∧ W.cell? ⟨w6.heap.size, 5, none⟩ = some (.slice A6' n6' c06') ∧ W.cell? ⟨w12.heap.size, 0, none⟩ = some (.int .i64 k12) ∧ W.cell? ⟨w12.heap.size, 1, none⟩ = some (.string ns12) ∧ W.cell? ⟨w12.heap.size, 2, none⟩ = some (.string nl12) ∧ W.cell? ⟨w12.heap.size, 3, none⟩ = some (.string s12) ∧ W.cell? ⟨w12.heap.size, 4, none⟩ = some (.slice A12 n12 c012) ∧ W.cell? ⟨w12.heap.size, 5, none⟩ = some (.slice A12' n12' c012') ∧ W.cell? ⟨w16.heap.size, 0, none⟩ = some (.int .i64 k16) ∧ W.cell? ⟨w16.heap.size, 1, none⟩ = some (.string ns16) ∧ W.cell? ⟨w16.heap.size, 2, none⟩ = some (.string nl16) ∧ W.cell? ⟨w16.heap.size, 3, none⟩ = some (.string s16) ∧ W.cell? ⟨w16.heap.size, 4, none⟩ = some (.slice A16 n16 c016) ∧ W.cell? ⟨w16.heap.size, 5, none⟩ = some (.slice A16' n16' c016') ∧ W.cell? ⟨w21.heap.size, 0, none⟩ = some (.string ⟨#[117]⟩) ∧ W.cell? ⟨w21.heap.size, 1, none⟩ = some (.string ⟨#[120]⟩) ∧ W.cell? ⟨b5, o5 + 3, none⟩ = some (.string ⟨#[97]⟩) ∧ W.cell? ⟨b5, o5 + 3 + 1, none⟩ = some (.string ⟨#[120, 49]⟩))) := Lib.hid fun W h => by
    obtain ⟨a0, a1, a2, a3, a4, a5⟩ := blk6 (HG6.out W h)
    obtain ⟨p0, p1, p2, p3, p4, p5⟩ := blk6 (HG12.out W h)
    obtain ⟨c0, c1, c2, c3, c4, c5⟩ := blk6 (HG16.out W h)
    obtain ⟨d0, d1⟩ := blk2 (HG21.out W h)
    obtain ⟨e0, e1⟩ := HC5.out W h
    exact ⟨h, a0, a1, a2, a3, a4, a5, p0, p1, p2, p3, p4, p5, c0, c1, c2, c3, c4, c5, d0, d1, e0, e1⟩
  have hq1 : ∀ W, (binOp .eql 24 (.agg #[.string ⟨#[117]⟩, .string ⟨#[120]⟩]) (.agg #[.string ⟨#[117]⟩, .string ⟨#[120]⟩])).run Tryz.prog W = .ok (.bool true) W := fun W => by rw [run_eql_name, eqS_refl, eqS_refl]; rfl
  have hq2 : ∀ W, (binOp .eql 24 (.agg #[.string ⟨#[97]⟩, .string ⟨#[120, 49]⟩]) (.agg #[.string ⟨#[97]⟩, .string ⟨#[120, 49]⟩])).run Tryz.prog W = .ok (.bool true) W := fun W => by rw [run_eql_name, eqS_refl, eqS_refl]; rfl
  have hix : ∀ W, (Instr.indexAt 29 (.slice (some ⟨b5, o5, none⟩) 3 c5) (.int .i64 1)).run Tryz.prog W = .ok (.pointer (some ⟨b5, o5 + 3, none⟩)) W := fun W => run_index_at (P := Tryz.prog) 29 39 3 (by kernel_rfl) (fun w => by kernel_rfl) rfl 3 c5 1 (by omega) W
  have HBL := hB30
  clear hs1 hs2 hs3 hs4 hs5 hs6 hs7 hs8 hs9 hs10 hs11 hs12 hs13 hs14 hs15 hs16 hs17 hs18 hs19 hs20 hs21 hs22 hs23 hs24 hs25 hs26 hs27 hs28 hs29 hs30 hB1 hB2 hB3 hB4 hB5 hB6 hB7 hB8 hB9 hB10 hB11 hB12 hB13 hB14 hB15 hB16 hB17 hB18 hB19 hB20 hB21 hB22 hB23 hB24 hB25 hB26 hB27 hB28 hB29 hB30 hb1 hb2 hb3 hb4 hb5 hb6 hb7 hb8 hb9 hb10 hb11 hb12 hb13 hb14 hb15 hb16 hb17 hb18 hb19 hb20 hb21 hb22 hb23 hb24 hb25 hb26 hb27 hb28 hb29 hb30 HT0 HT1 HT2 HT3 HT4 HT5 HT6 HT7 HT8 HT9 HT10 HT11 HT12 HT13 HT14 HT15 HT16 HT17 HT18 HT19 HT20 HT21 HT22 HT23 HT24 HT25 HT26 HT27 HT28 HT29 HT30
  go_region_held3 (fun W => Below w30.heap.size w30 W ∧ W.cell? ⟨w6.heap.size, 0, none⟩ = some (.int .i64 k6) ∧ W.cell? ⟨w6.heap.size, 1, none⟩ = some (.string ns6) ∧ W.cell? ⟨w6.heap.size, 2, none⟩ = some (.string nl6) ∧ W.cell? ⟨w6.heap.size, 3, none⟩ = some (.string s6) ∧ W.cell? ⟨w6.heap.size, 4, none⟩ = some (.slice A6 n6 c06) ∧ W.cell? ⟨w6.heap.size, 5, none⟩ = some (.slice A6' n6' c06') ∧ W.cell? ⟨w12.heap.size, 0, none⟩ = some (.int .i64 k12) ∧ W.cell? ⟨w12.heap.size, 1, none⟩ = some (.string ns12) ∧ W.cell? ⟨w12.heap.size, 2, none⟩ = some (.string nl12) ∧ W.cell? ⟨w12.heap.size, 3, none⟩ = some (.string s12) ∧ W.cell? ⟨w12.heap.size, 4, none⟩ = some (.slice A12 n12 c012) ∧ W.cell? ⟨w12.heap.size, 5, none⟩ = some (.slice A12' n12' c012') ∧ W.cell? ⟨w16.heap.size, 0, none⟩ = some (.int .i64 k16) ∧ W.cell? ⟨w16.heap.size, 1, none⟩ = some (.string ns16) ∧ W.cell? ⟨w16.heap.size, 2, none⟩ = some (.string nl16) ∧ W.cell? ⟨w16.heap.size, 3, none⟩ = some (.string s16) ∧ W.cell? ⟨w16.heap.size, 4, none⟩ = some (.slice A16 n16 c016) ∧ W.cell? ⟨w16.heap.size, 5, none⟩ = some (.slice A16' n16' c016') ∧ W.cell? ⟨w21.heap.size, 0, none⟩ = some (.string ⟨#[117]⟩) ∧ W.cell? ⟨w21.heap.size, 1, none⟩ = some (.string ⟨#[120]⟩) ∧ W.cell? ⟨b5, o5 + 3, none⟩ = some (.string ⟨#[97]⟩) ∧ W.cell? ⟨b5, o5 + 3 + 1, none⟩ = some (.string ⟨#[120, 49]⟩))
    ((refine HSB.out _ ?_; first
      | exact ⟨rfl, rfl, rfl, Nat.le_refl _, fun _ _ => rfl⟩
      | (go_split_ands; first
          | (refine Below.trans (by assumption) (Below.mono hb39 (Below.size (by assumption))))
          | (refine Below.trans (by assumption) (Below.mono hb38 (Below.size (by assumption))))
          | (refine Below.trans (by assumption) (Below.mono hb40 (Below.size (by assumption))))
          | (refine Below.trans (by assumption) (Below.mono hb41 (Below.size (by assumption))))
          | (refine Below.trans (by assumption) (Below.mono hb36 (Below.size (by assumption))))
          | (refine Below.alloc (by assumption) (Below.size (by assumption)) _))))
    (first
      | (go_at_call 39; refine (name39_any _ _ _).mono ?_; rintro e w' ⟨rfl, hb39⟩)
      | (go_at_call 38; refine (choice38_any _ _ _ _).mono ?_; rintro e w' ⟨rfl, hb38⟩)
      | (go_at_call 40; refine (all40_any _ _ _ _).mono ?_; rintro e w' ⟨rfl, hb40⟩)
      | (go_at_call 41; refine (space41_any _ _ _ _ _).mono ?_; rintro e w' ⟨rfl, hb41⟩)
      | (go_at_call 36; go_split_ands; first
          | (refine (SameClass_val out1 (chC [nC aB bB, nC aB xB, nC bB yB]) [.int .i64 k6, .string ns6, .string nl6, .string s6, .slice A6 n6 c06, .slice A6' n6' c06'] _ _ _ _ (HQ6.out _ (by assumption)) (row3_rep (hp_below (heap_alloc_new _ _) hb38)) same1).mono ?_; rintro e w' ⟨rfl, hb36⟩)
          | (refine (SameClass_val out2 (anyC [sC aB [nC aB xB]]) [.int .i64 k12, .string ns12, .string nl12, .string s12, .slice A12 n12 c012, .slice A12' n12' c012'] _ _ _ _ (HQ12.out _ (by assumption)) (all_rep (sC1_rep aB (nC_rep aB xB _ _) (hp_below (hp_alloc (hp_below (heap_alloc_new _ _) hb41)) hb40)) (hp_below (heap_alloc_new _ _) hb40)) same2).mono ?_; rintro e w' ⟨rfl, hb36⟩)
          | (refine (SameClass_val out3 (anyC [anyC []]) [.int .i64 k16, .string ns16, .string nl16, .string s16, .slice A16 n16 c016, .slice A16' n16' c016'] _ _ _ _ (HQ16.out _ (by assumption)) (all_rep (anyE_rep _) (hp_below (heap_alloc_new _ _) hb40)) same3).mono ?_; rintro e w' ⟨rfl, hb36⟩)))
  go_split_ands
  go_wp2_with fail
  go_ret
  exact ⟨rfl, HBL.out.seq (by assumption)⟩
end Go.Proofs.YtfildbkkmnfekaaGreatDoor
