/- mentioned. -/
import Derived.Test.YtfildbkkmnfekaaGreatDoorMentP
import Derived.Test.YtfildbkkmnfekaaGreatDoorG11
import Derived.WalkKit
import Derived.Maps.Own
import Derived.Deep.RegionHeld3
import Derived.Deep.DeepFit
import Derived.WalkSpells
import Derived.WalkLawsBesides
import Derived.BigGuardPart
import Derived.Lib.Hide
import Derived.Deep.QuietTactic
import Derived.BigQuiet
import Derived.StillTailTactics
import Derived.Deep.DeepCutAuto
import Derived.Deep.CutBlock
import Derived.Laws.EntriesVeiled
namespace Go.Proofs.YtfildbkkmnfekaaGreatDoor
open Go.RowKit

theorem alloc4b_facts (w : World) (o o1 o2 o3 : Obj) : ∃ w1, (((w.alloc o).alloc o1).alloc o2).alloc o3 = w1 ∧ w1.heap[w.heap.size]? = some o ∧ w1.heap[w.heap.size + 1]? = some o1 ∧ w1.heap[w.heap.size + 1 + 1]? = some o2 ∧ w1.heap[w.heap.size + 1 + 1 + 1]? = some o3 ∧ w.heap.size + 1 + 1 + 1 < w1.heap.size ∧ Below w.heap.size w w1 := by
  obtain ⟨w1, hw1, h1, h2, h3, hs, hb⟩ := alloc3_facts w o o1 o2
  have hs3 : w1.heap.size = w.heap.size + 1 + 1 + 1 := by rw [← hw1]; simp
  rw [hw1]
  refine ⟨_, rfl, hp_alloc h1, hp_alloc h2, hp_alloc h3, ?_, by simp; omega, hb.alloc (by omega) _⟩
  rw [← hs3]; exact heap_alloc_new _ _
/-- Names to be avoided, in the map. -/
def avM (av : List Nm) : List (Nm × Bool) := av.foldl (fun m x => putM eqN x false m) []
theorem avM_snoc {av : List Nm} {i : Nat} {x : Nm} (h : av[i]? = some x) : avM (av.take (i + 1)) = putM eqN x false (avM (av.take i)) := by
  obtain ⟨h1, rfl⟩ := List.getElem?_eq_some_iff.1 h
  unfold avM
  rw [List.take_succ_eq_append_getElem h1, List.foldl_append]; rfl
set_option maxHeartbeats 4000000 in
set_option maxRecDepth 100000 in
theorem mentioned_new (av : List Nm) (A : Option Addr) (n c : Nat) (l : List Cls) (A' : Option Addr) (n' c' : Nat) (w : World) (F F' : Nat → Prop) (hav0 : RowV w F 2 nmV av A n) (hrow0 : RowL w F' l A' n') (hn : n < 2000000) (hn' : n' < 2000000) :
    Calls Tryz.prog 44 #[.slice A n c, .slice A' n' c'] w fun e w' => ∃ g1 g2, e = .returned (.agg #[.map (some g1), .map (some g2)]) ∧ MapsAt w' g1 g2 (addPL l (avM av, [])) ∧ g1 ≠ g2 ∧ w.heap.size < g1 ∧ w.heap.size < g2 ∧ Below w.heap.size w w' := by
  have hav := hav0.here nmV_ne
  have h1 := hrow0.here
  clear hav0 hrow0
  obtain ⟨w1, hw1, S1, S2, S3, S4, hsz1, hb1⟩ := alloc4b_facts w (.cells #[.map none, .map none] 66) (.map #[] 0) (.map #[] 0) (.cells #[.map (some (w.heap.size + 1)), .map (some (w.heap.size + 1 + 1))] 66)
  have T1 : MapIs w1 (w.heap.size + 1) nmE [] := S2
  have T2 : MapIs w1 (w.heap.size + 1 + 1) stE [] := S3
  obtain ⟨a0, a1⟩ := blk2 S4
  have HS1 := Lib.hid S1; have HT1 := Lib.hid T1; have HT2 := Lib.hid T2; have HS4 := Lib.hid S4
  have hmm := @run_makeMap Tryz.prog
  clear S1 S2 S3 S4 T1 T2
  go_enter Tryz.func44, Tryz.ntmps44
  go_wp2_with fail
  have HW := Lib.hid hw1
  clear hw1 hmm a0 a1
  go_loopw [16] (fun si wr => ∃ i : Nat, i ≤ n ∧ si = .int .i64 i ∧ MapIs wr (w.heap.size + 1) nmE (avM (av.take i)) ∧ Kept (· = w.heap.size + 1) w1 wr)
    (fun si _ => n - (intOf si).toNat)
  case atStart => exact ⟨0, by omega, rfl, HT1.out, Kept.refl _ _⟩
  case round =>
    obtain ⟨i, hi, rfl, hmp, hkr⟩ := hrel
    have HMPr := Lib.hid hmp
    have hbw : Below w.heap.size w wr := hb1.trans (hkr.below (by omega) (by intro k hk e; omega))
    have S4 := hp_kept HS4.out hkr (by omega)
    obtain ⟨a0, a1⟩ := blk2 S4
    have hszr := hkr.size
    clear hmp S4
    by_cases hlt : i < n
    · obtain ⟨b, off, a, s, HX, p0, p1, hix⟩ := (hav.below hbw).name hlt c
      have hd : decide (i < n) = true := by simp; omega
      obtain ⟨w5, hw5, S5, hsz5, hb5⟩ := alloc_facts wr (.cells #[.string a, .string s] 24)
      obtain ⟨r0, r1⟩ := blk2 S5
      have HMP5 := Lib.hid (HMPr.out.below hb5)
      have S4 := hp_below (hp_kept HS4.out hkr (by omega)) hb5
      obtain ⟨x0, x1⟩ := blk2 S4
      have HSN := Lib.hid (avM_snoc HX.out)
      clear S5 S4
      go_wp2_with (first
        | (at_mapUpdate; refine wpList_put rfl (.tmp 21) (.tmp 22) (.const (.bool false)) 64 rfl (et := 4) keyNm (by kernel_rfl) (w.heap.size + 1) _ rfl HMP5.out (a, s) rfl false rfl ?_
           intro w6 h6a h6b h6c h6d)
        | fail)
      go_roundw
      case rel => exact ⟨i + 1, by omega, by go_num, by rw [HSN.out]; exact h6a, (hkr.trans (Kept.of_below hb5)).trans h6d⟩
      case measure => simp [intOf]; omega
    · have hd : decide (i < n) = false := by simp; omega
      have htk : av.take i = av := List.take_of_length_le (by have := hav.len; omega)
      have HMQ : Hid (MapIs wr (w.heap.size + 1) nmE (avM av)) := Lib.hid (by have h := HMPr.out; rw [htk] at h; exact h)
      obtain ⟨wo, rfl⟩ : ∃ wo : World, wo = wr := ⟨_, rfl⟩
      obtain ⟨w2, hw2, S2, hsz2, hb2⟩ := alloc_facts wo (.cells #[.func (.func 74) #[] #[.pointer (some ⟨w.heap.size + 1 + 1 + 1, 0, none⟩), .pointer (some ⟨wo.heap.size, 0, none⟩)]] 86)
      have HMP : Hid (MapsAt w2 (w.heap.size + 1) (w.heap.size + 1 + 1) (avM av, [])) := Lib.hid ⟨HMQ.out.below hb2, (HT2.out.keep (hkr.block _ (by omega) (by omega))).below hb2⟩
      have HCL : Hid (CloAt w2 (w.heap.size + 1 + 1 + 1) wo.heap.size (w.heap.size + 1) (w.heap.size + 1 + 1)) := Lib.hid ⟨hp_below (hp_kept HS4.out hkr (by omega)) hb2, S2⟩
      have HS1o := Lib.hid (hp_below (hp_kept HS1.out hkr (by omega)) hb2)
      have hbB : Below w.heap.size w w2 := hbw.trans (hb2.mono (by omega))
      have HX0 : Hid (∀ ch, ch ∈ l → ∀ (cs : List Value) (W : World) (B : Nat) (m : Ment), RepC W (· < B) ch cs → B ≤ w.heap.size + 1 → B ≤ w.heap.size + 1 + 1 → w.heap.size + 1 ≠ w.heap.size + 1 + 1 → CloAt W (w.heap.size + 1 + 1 + 1) wo.heap.size (w.heap.size + 1) (w.heap.size + 1 + 1) → MapsAt W (w.heap.size + 1) (w.heap.size + 1 + 1) m →
          Calls Tryz.prog 74 #[.agg cs.toArray, .pointer (some ⟨w.heap.size + 1 + 1 + 1, 0, none⟩), .pointer (some ⟨wo.heap.size, 0, none⟩)] W fun e w' => e = .returned (.tuple #[]) ∧ MapsAt w' (w.heap.size + 1) (w.heap.size + 1 + 1) (addPC ch m) ∧ Kept (fun b => b = w.heap.size + 1 ∨ b = w.heap.size + 1 + 1) W w') :=
        Lib.hid fun ch _ => mentwalk_any _ _ _ _ ch
      have hB1 : w.heap.size ≤ w.heap.size + 1 := by omega
      have hB2 : w.heap.size ≤ w.heap.size + 1 + 1 := by omega
      have hne : w.heap.size + 1 ≠ w.heap.size + 1 + 1 := by omega
      clear S2 htk
      go_wp2_with fail
      have HW2 := Lib.hid hw2
      clear hw2 a0 a1
      go_loopw [27] (fun si wr => ∃ i : Nat, i ≤ n' ∧ si = .int .i64 i ∧ ∃ sy, Hid (addPL l (avM av, []) = addPL (l.drop i) sy) ∧ MapsAt wr (w.heap.size + 1) (w.heap.size + 1 + 1) sy ∧ Kept (fun b => b = (w.heap.size + 1) ∨ b = (w.heap.size + 1 + 1)) w2 wr)
        (fun si _ => n' - (intOf si).toNat)
      case atStart => exact ⟨0, by omega, rfl, _, Lib.hid rfl, HMP.out, Kept.refl _ _⟩
      case round =>
        obtain ⟨i, hi, rfl, sy, HL, hmp, hkr⟩ := hrel
        have hbw : Below w.heap.size w wr := hbB.trans (hkr.below (by omega) (by intro k hk e; omega))
        have hclo := HCL.out.kept HMP.out hkr
        have a2 := blk1 hclo.2
        have HCLr := Lib.hid hclo
        have HMPr := Lib.hid hmp
        have hszr := hkr.size
        clear hclo hmp
        by_cases hlt : i < n'
        · obtain ⟨b, off, ch, v0, v1, v2, v3, v4, v5, HX, hrc, p0, p1, p2, p3, p4, p5, hix⟩ := h1.roundB hbw hlt c'
          have hd : decide (i < n') = true := by simp; omega
          obtain ⟨k0, n0, l0, s0, A0, m0, d0, A1, m1, d1, rfl, rfl, rfl, rfl, rfl, rfl⟩ := hrc.shape
          obtain ⟨w5, hw5, S5, hsz5, hb5⟩ := alloc_facts wr (.cells #[.int .i64 k0, .string n0, .string l0, .string s0, .slice A0 m0 d0, .slice A1 m1 d1] 28)
          have hrc5 := hrc.below (hb5.mono (by omega))
          have hmp5 : MapsAt w5 (w.heap.size + 1) (w.heap.size + 1 + 1) sy := ⟨HMPr.out.1.below hb5, HMPr.out.2.below hb5⟩
          have hclo5 : CloAt w5 (w.heap.size + 1 + 1 + 1) wo.heap.size (w.heap.size + 1) (w.heap.size + 1 + 1) := ⟨hp_below HCLr.out.1 hb5, hp_below HCLr.out.2 hb5⟩
          have a5 := blk1 hclo5.2
          obtain ⟨r0, r1, r2, r3, r4, r5⟩ := blk6 S5
          have HRC5 := Lib.hid hrc5; have HMP5 := Lib.hid hmp5; have HCL5 := Lib.hid hclo5
          clear S5 hrc5 hmp5 hclo5 hrc
          go_wp2_with fail
          refine (HX0.out ch (mem_of_hid HX) _ _ w.heap.size sy HRC5.out hB1 hB2 hne HCL5.out HMP5.out).mono ?_
          rintro e w6 ⟨rfl, hm2, hk2⟩
          go_wp2_with fail
          go_roundw
          case rel => exact ⟨i + 1, by omega, by go_num, _, Lib.hid (by rw [HL.out, addPL_step _ HX.out]), hm2, (hkr.trans (Kept.of_below hb5)).trans hk2⟩
          case measure => simp [intOf]; omega
        · have hd : decide (i < n') = false := by simp; omega
          have hdn : l.drop i = [] := List.drop_eq_nil_of_le (by have := h1.len; omega)
          have HEX : Hid (addPL l (avM av, []) = sy) := Lib.hid (by rw [HL.out, hdn, addPL])
          have hclo4 := HCLr.out
          clear hdn
          have S1 := hp_kept HS1o.out hkr (by omega)
          have S4 := hclo4.1
          obtain ⟨z0, z1⟩ := blk2 S1
          obtain ⟨t0, t1⟩ := blk2 S4
          have f0 := frozen_of_row wr w.heap.size 0 _ _ S1
          have f1 := frozen_of_row wr w.heap.size 1 _ _ S1
          obtain ⟨wf, hwf⟩ : ∃ wf, (wr.setCell ⟨w.heap.size, 0, none⟩ (.map (some (w.heap.size + 1)))).setCell ⟨w.heap.size, 1, none⟩ (.map (some (w.heap.size + 1 + 1))) = wf := ⟨_, rfl⟩
          have Sf : wf.heap[w.heap.size]? = some (.cells #[.map (some (w.heap.size + 1)), .map (some (w.heap.size + 1 + 1))] 66) := by rw [← hwf]; exact hp_set2_1 (hp_set2_0 S1)
          have hbf : Below w.heap.size w wf := by rw [← hwf]; exact (hbw.setCell (p := ⟨w.heap.size, 0, none⟩) (Nat.le_refl _) _).setCell (p := ⟨w.heap.size, 1, none⟩) (Nat.le_refl _) _
          have hMf : MapsAt wf (w.heap.size + 1) (w.heap.size + 1 + 1) sy := ⟨HMPr.out.1.keep (by rw [← hwf]; exact (Below.heap_setCell _ _ _ _ (by simp <;> omega)).trans (Below.heap_setCell _ _ _ _ (by simp <;> omega))), HMPr.out.2.keep (by rw [← hwf]; exact (Below.heap_setCell _ _ _ _ (by simp <;> omega)).trans (Below.heap_setCell _ _ _ _ (by simp <;> omega)))⟩
          obtain ⟨g0, g1'⟩ := blk2 Sf
          have HMf := Lib.hid hMf
          clear S1 S4 Sf hMf hclo4
          go_wp2_with fail
          (try simp only [Exit.inBlock, Exit.then])
          refine bodyPost_ret (v := .agg #[.map (some (w.heap.size + 1)), .map (some (w.heap.size + 1 + 1))]) (by simp [results, Tryz.results44, go_sem, g0, g1']) rfl ?_
          exact ⟨_, _, rfl, by rw [HEX.out]; exact HMf.out, hne, by omega, by omega, hbf⟩
theorem mentioned_any (av : List Nm) (A : Option Addr) (n c : Nat) (l : List Cls) (A' : Option Addr) (n' c' : Nat) (w : World) (F F' : Nat → Prop) (hav0 : RowV w F 2 nmV av A n) (hrow0 : RowL w F' l A' n') (hn : n < 2000000) (hn' : n' < 2000000) :
    Calls Tryz.prog 44 #[.slice A n c, .slice A' n' c'] w fun e w' => ∃ g1 g2, e = .returned (.agg #[.map (some g1), .map (some g2)]) ∧ MapsAt w' g1 g2 (addPL l (avM av, [])) ∧ g1 ≠ g2 ∧ Below w.heap.size w w' := by
  refine (mentioned_new av A n c l A' n' c' w F F' hav0 hrow0 hn hn').mono ?_
  rintro e w' ⟨g1, g2, h1, h2, h3, -, -, h4⟩
  exact ⟨g1, g2, h1, h2, h3, h4⟩
end Go.Proofs.YtfildbkkmnfekaaGreatDoor
