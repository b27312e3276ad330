/- together. -/
import Derived.Test.YtfildbkkmnfekaaGreatDoorG11
import Derived.WalkKit
import Derived.WalkSpells
import Derived.WalkLawsBesides
import Derived.BigGuardPart
import Derived.Lib.Hide
import Derived.Deep.QuietTactic
import Derived.BigQuiet
import Derived.StillTailTactics
import Derived.Deep.DeepCutAuto
import Derived.Deep.CutBlock
import Derived.Laws.EntriesVeiled
namespace Go.Proofs.YtfildbkkmnfekaaGreatDoor
open Go.RowKit

/-- Several classes put together. -/
def togC : List Cls → Cls
  | [c] => c
  | l => .mk 4 ⟨#[]⟩ ⟨#[]⟩ ⟨#[]⟩ [] l
def set6 (w : World) (g : Nat) (v0 v1 v2 v3 v4 v5 : Value) : World :=
  (((((w.setCell ⟨g, 0, none⟩ v0).setCell ⟨g, 1, none⟩ v1).setCell ⟨g, 2, none⟩ v2).setCell ⟨g, 3, none⟩ v3).setCell ⟨g, 4, none⟩ v4).setCell ⟨g, 5, none⟩ v5
theorem set6_heap {w : World} {g : Nat} {t : TypeId} {u0 u1 u2 u3 u4 u5 : Value} (v0 v1 v2 v3 v4 v5 : Value) (h : w.heap[g]? = some (.cells #[u0, u1, u2, u3, u4, u5] t)) :
    (set6 w g v0 v1 v2 v3 v4 v5).heap[g]? = some (.cells #[v0, v1, v2, v3, v4, v5] t) := by
  unfold set6
  have h0 := hp_set (i := 0) (v := v0) h
  have h1 := hp_set (i := 1) (v := v1) h0
  have h2 := hp_set (i := 2) (v := v2) h1
  have h3 := hp_set (i := 3) (v := v3) h2
  have h4 := hp_set (i := 4) (v := v4) h3
  have h5 := hp_set (i := 5) (v := v5) h4
  rw [h5]; rfl
theorem set6_below {B : Nat} {a w : World} (h : Below B a w) {g : Nat} (hg : B ≤ g) (v0 v1 v2 v3 v4 v5 : Value) : Below B a (set6 w g v0 v1 v2 v3 v4 v5) := by
  unfold set6
  exact (((((h.setCell (p := ⟨g, 0, none⟩) hg v0).setCell (p := ⟨g, 1, none⟩) hg v1).setCell (p := ⟨g, 2, none⟩) hg v2).setCell (p := ⟨g, 3, none⟩) hg v3).setCell (p := ⟨g, 4, none⟩) hg v4).setCell (p := ⟨g, 5, none⟩) hg v5
theorem RowL.only {w : World} {G : Nat → Prop} {x : Cls} {A : Option Addr} {n b off : Nat} {cs : List Value} (h : RowL w G [x] A n) (hA : A = some ⟨b, off, none⟩) (hc : CellsAt w b off cs) (hl : cs.length = 6) : RepC w G x cs := by
  obtain ⟨b', off', hA', _, hr⟩ := h.2 (by simp)
  rw [hA] at hA'
  simp only [Option.some.injEq, Addr.mk.injEq, and_true] at hA'
  obtain ⟨rfl, rfl⟩ := hA'
  rw [RepR] at hr
  obtain ⟨⟨cs', h1, h2⟩, _⟩ := hr
  have hl' : cs'.length = 6 := by
    obtain ⟨k, ns, nl, s, ex, ar⟩ := x
    obtain ⟨A, n, c, A', n', c', rfl, _⟩ := h2.form
    rfl
  have : cs' = cs := by
    refine List.ext_getElem (by omega) fun j hj hj' => ?_
    have e1 := h1 j _ (List.getElem?_eq_getElem hj)
    have e2 := hc j _ (List.getElem?_eq_getElem hj')
    rw [e1] at e2
    exact Option.some.inj e2
  rw [← this]; exact h2
theorem RowL.roundA {w wr : World} {l : List Cls} {A : Option Addr} {n : Nat} (h : RowL w (· < w.heap.size) l A n) (hb : Below w.heap.size w wr) {i : Nat} (hi : i < n) (c : Nat) :
    ∃ b off ch v0 v1 v2 v3 v4 v5, Hid (A = some ⟨b, off, none⟩) ∧ Hid (l[i]? = some ch) ∧ Hid (CellsAt w b (off + i * 6) [v0, v1, v2, v3, v4, v5]) ∧ RepC wr (· < w.heap.size) ch [v0, v1, v2, v3, v4, v5] ∧
      wr.cell? ⟨b, off + i * 6, none⟩ = some v0 ∧ wr.cell? ⟨b, off + i * 6 + 1, none⟩ = some v1 ∧ wr.cell? ⟨b, off + i * 6 + 2, none⟩ = some v2 ∧
      wr.cell? ⟨b, off + i * 6 + 3, none⟩ = some v3 ∧ wr.cell? ⟨b, off + i * 6 + 4, none⟩ = some v4 ∧ wr.cell? ⟨b, off + i * 6 + 5, none⟩ = some v5 ∧
      ∀ W, (Instr.indexAt 22 (.slice A n c) (.int .i64 (i : Int))).run Tryz.prog W = .ok (.pointer (some ⟨b, off + i * 6, none⟩)) W := by
  obtain ⟨b, off, ch, v0, v1, v2, v3, v4, v5, hA, hc, hrc, hcs⟩ := h.elem hi
  have hcs' : CellsAt wr b (off + i * 6) [v0, v1, v2, v3, v4, v5] := hcs.keep (hb.block b hcs.lt)
  obtain ⟨p0, p1, p2, p3, p4, p5⟩ := hcs'.six
  exact ⟨b, off, _, _, _, _, _, _, _, Lib.hid hA, Lib.hid hc, Lib.hid hcs, hrc.below hb, p0, p1, p2, p3, p4, p5, run_index_at (P := Tryz.prog) 22 28 6 Tryz.underlying22 (fun w => by kernel_rfl) hA n c i hi⟩
set_option maxHeartbeats 1000000 in
set_option maxRecDepth 100000 in
theorem tog87_any (l : List Cls) (A : Option Addr) (n c : Nat) (w : World) (F : Nat → Prop) (hrow0 : RowL w F l A n) (hn : n < 2000000) :
    Calls Tryz.prog 87 #[.slice A n c] w fun e w' => ∃ cs, e = .returned (.agg cs.toArray) ∧ (∀ G : Nat → Prop, RowL w G l A n → RepC w' G (togC l) cs) ∧ Below w.heap.size w w' := by
  have hrow := hrow0.here
  clear hrow0
  obtain ⟨w1, hw1, hblk, hsz, hb1⟩ := alloc_facts w (.cells #[.int .i64 0, .string ⟨#[]⟩, .string ⟨#[]⟩, .string ⟨#[]⟩, .slice none 0 0, .slice none 0 0] 28)
  have HB := Lib.hid hblk
  have f0 := frozen_of_row w1 w.heap.size 0 _ _ hblk
  have f1 := frozen_of_row w1 w.heap.size 1 _ _ hblk
  have f2 := frozen_of_row w1 w.heap.size 2 _ _ hblk
  have f3 := frozen_of_row w1 w.heap.size 3 _ _ hblk
  have f4 := frozen_of_row w1 w.heap.size 4 _ _ hblk
  have f5 := frozen_of_row w1 w.heap.size 5 _ _ hblk
  obtain ⟨z0, z1, z2, z3, z4, z5⟩ := blk6 hblk
  clear hblk
  by_cases h1 : n = 1
  · subst h1
    obtain ⟨b, off, ch, v0, v1, v2, v3, v4, v5, HA, HX, HCA, hrc, p0, p1, p2, p3, p4, p5, hix⟩ := hrow.roundA hb1 (i := 0) (by omega) c
    have hl : Hid (togC l = ch) := Lib.hid (by
      have h := hrow.len
      have h2 := HX.out
      match l, h, h2 with
      | [x], _, h2 => simpa [togC] using h2)
    obtain ⟨wf, hwf⟩ : ∃ wf, set6 w1 w.heap.size v0 v1 v2 v3 v4 v5 = wf := ⟨_, rfl⟩
    have Sf : wf.heap[w.heap.size]? = some (.cells #[v0, v1, v2, v3, v4, v5] 28) := by rw [← hwf]; exact set6_heap v0 v1 v2 v3 v4 v5 HB.out
    have hbf : Below w.heap.size w wf := by rw [← hwf]; exact set6_below hb1 (Nat.le_refl _) _ _ _ _ _ _
    have hbf1 : Below w.heap.size w1 wf := by rw [← hwf]; exact set6_below (Below.refl _ _) (Nat.le_refl _) _ _ _ _ _ _
    obtain ⟨y0, y1, y2, y3, y4, y5⟩ := blk6 Sf
    unfold set6 at hwf
    have HRC := Lib.hid hrc
    clear Sf hrc
    simp only [Nat.zero_mul, Nat.add_zero] at p0 p1 p2 p3 p4 p5
    have hi0 : ∀ W, (Instr.indexAt 22 (.slice A 1 c) (.int .i64 0)).run Tryz.prog W = .ok (.pointer (some ⟨b, off, none⟩)) W := fun W => by
      have h := hix W
      rw [Nat.zero_mul, Nat.add_zero] at h
      exact h
    clear hix
    obtain ⟨k0, n0, l0, s0, A0, m0, c0, A1, m1, c1, rfl, rfl, rfl, rfl, rfl, rfl⟩ := HRC.out.shape
    go_enter Tryz.func87, Tryz.ntmps87
    go_wp2_with fail
    (try simp only [Exit.inBlock, Exit.then])
    refine bodyPost_ret (v := .agg #[.int .i64 k0, .string n0, .string l0, .string s0, .slice A0 m0 c0, .slice A1 m1 c1]) (by simp [results, Tryz.results87, go_sem, y0, y1, y2, y3, y4, y5]) rfl ?_
    refine ⟨_, rfl, fun G hG => ?_, hbf⟩
    rw [hl.out]
    have hlx : l = [ch] := by
      have h2 := HX.out
      have h := hrow.len
      match l, h, h2 with
      | [x], _, h2 => simpa using h2
    rw [hlx] at hG
    exact RepC.keep (fun b hb hl => ⟨hb, hbf.block b hl⟩) _ _ (hG.only HA.out HCA.out rfl)
  · have hd : decide (n = 1) = false := by simpa using h1
    obtain ⟨wf, hwf⟩ : ∃ wf, set6 w1 w.heap.size (.int .i64 4) (.string ⟨#[]⟩) (.string ⟨#[]⟩) (.string ⟨#[]⟩) (.slice none 0 0) (.slice A n c) = wf := ⟨_, rfl⟩
    have Sf : wf.heap[w.heap.size]? = some (.cells #[.int .i64 4, .string ⟨#[]⟩, .string ⟨#[]⟩, .string ⟨#[]⟩, .slice none 0 0, .slice A n c] 28) := by rw [← hwf]; exact set6_heap _ _ _ _ _ _ HB.out
    have hbf : Below w.heap.size w wf := by rw [← hwf]; exact set6_below hb1 (Nat.le_refl _) _ _ _ _ _ _
    have hl : Hid (togC l = .mk 4 ⟨#[]⟩ ⟨#[]⟩ ⟨#[]⟩ [] l) := Lib.hid (by
      have h := hrow.len
      match l, h with
      | [], _ => rfl
      | [x], h => exact absurd h h1
      | x :: y :: r, _ => rfl)
    obtain ⟨y0, y1, y2, y3, y4, y5⟩ := blk6 Sf
    unfold set6 at hwf
    clear Sf
    go_enter Tryz.func87, Tryz.ntmps87
    go_wp2_with fail
    (try simp only [Exit.inBlock, Exit.then])
    refine bodyPost_ret (v := .agg #[.int .i64 4, .string ⟨#[]⟩, .string ⟨#[]⟩, .string ⟨#[]⟩, .slice none 0 0, .slice A n c]) (by simp [results, Tryz.results87, go_sem, y0, y1, y2, y3, y4, y5]) rfl ?_
    refine ⟨_, rfl, fun G hG => ?_, hbf⟩
    rw [hl.out, RepC]
    have hn2 := hrow.len
    refine ⟨none, 0, A, c, ?_, by simp, by omega, fun h => by simp at h, fun hp => ?_⟩
    · rw [← hn2]; rfl
    · obtain ⟨b, off, hA, hb, hr⟩ := hG.2 hp
      have hlt := RepR.lt' l b off (by intro e; rw [e] at hp; simp at hp) hr
      exact ⟨b, off, hA, hb, RepR.keep (fun b hb hl => ⟨hb, hbf.block b hl⟩) l b off (hbf.block b hlt) hr⟩
set_option maxHeartbeats 1000000 in
set_option maxRecDepth 100000 in
theorem tog85_any (l : List Cls) (A : Option Addr) (n c : Nat) (w : World) (F : Nat → Prop) (hrow0 : RowL w F l A n) (hn : n < 2000000) :
    Calls Tryz.prog 85 #[.slice A n c] w fun e w' => ∃ cs, e = .returned (.agg cs.toArray) ∧ (∀ G : Nat → Prop, RowL w G l A n → RepC w' G (togC l) cs) ∧ Below w.heap.size w w' := by
  have hrow := hrow0.here
  clear hrow0
  obtain ⟨w1, hw1, hblk, hsz, hb1⟩ := alloc_facts w (.cells #[.int .i64 0, .string ⟨#[]⟩, .string ⟨#[]⟩, .string ⟨#[]⟩, .slice none 0 0, .slice none 0 0] 28)
  have HB := Lib.hid hblk
  have f0 := frozen_of_row w1 w.heap.size 0 _ _ hblk
  have f1 := frozen_of_row w1 w.heap.size 1 _ _ hblk
  have f2 := frozen_of_row w1 w.heap.size 2 _ _ hblk
  have f3 := frozen_of_row w1 w.heap.size 3 _ _ hblk
  have f4 := frozen_of_row w1 w.heap.size 4 _ _ hblk
  have f5 := frozen_of_row w1 w.heap.size 5 _ _ hblk
  obtain ⟨z0, z1, z2, z3, z4, z5⟩ := blk6 hblk
  clear hblk
  by_cases h1 : n = 1
  · subst h1
    obtain ⟨b, off, ch, v0, v1, v2, v3, v4, v5, HA, HX, HCA, hrc, p0, p1, p2, p3, p4, p5, hix⟩ := hrow.roundA hb1 (i := 0) (by omega) c
    have hl : Hid (togC l = ch) := Lib.hid (by
      have h := hrow.len
      have h2 := HX.out
      match l, h, h2 with
      | [x], _, h2 => simpa [togC] using h2)
    obtain ⟨wf, hwf⟩ : ∃ wf, set6 w1 w.heap.size v0 v1 v2 v3 v4 v5 = wf := ⟨_, rfl⟩
    have Sf : wf.heap[w.heap.size]? = some (.cells #[v0, v1, v2, v3, v4, v5] 28) := by rw [← hwf]; exact set6_heap v0 v1 v2 v3 v4 v5 HB.out
    have hbf : Below w.heap.size w wf := by rw [← hwf]; exact set6_below hb1 (Nat.le_refl _) _ _ _ _ _ _
    have hbf1 : Below w.heap.size w1 wf := by rw [← hwf]; exact set6_below (Below.refl _ _) (Nat.le_refl _) _ _ _ _ _ _
    obtain ⟨y0, y1, y2, y3, y4, y5⟩ := blk6 Sf
    unfold set6 at hwf
    have HRC := Lib.hid hrc
    clear Sf hrc
    simp only [Nat.zero_mul, Nat.add_zero] at p0 p1 p2 p3 p4 p5
    have hi0 : ∀ W, (Instr.indexAt 22 (.slice A 1 c) (.int .i64 0)).run Tryz.prog W = .ok (.pointer (some ⟨b, off, none⟩)) W := fun W => by
      have h := hix W
      rw [Nat.zero_mul, Nat.add_zero] at h
      exact h
    clear hix
    obtain ⟨k0, n0, l0, s0, A0, m0, c0, A1, m1, c1, rfl, rfl, rfl, rfl, rfl, rfl⟩ := HRC.out.shape
    go_enter Tryz.func85, Tryz.ntmps85
    go_wp2_with fail
    (try simp only [Exit.inBlock, Exit.then])
    refine bodyPost_ret (v := .agg #[.int .i64 k0, .string n0, .string l0, .string s0, .slice A0 m0 c0, .slice A1 m1 c1]) (by simp [results, Tryz.results85, go_sem, y0, y1, y2, y3, y4, y5]) rfl ?_
    refine ⟨_, rfl, fun G hG => ?_, hbf⟩
    rw [hl.out]
    have hlx : l = [ch] := by
      have h2 := HX.out
      have h := hrow.len
      match l, h, h2 with
      | [x], _, h2 => simpa using h2
    rw [hlx] at hG
    exact RepC.keep (fun b hb hl => ⟨hb, hbf.block b hl⟩) _ _ (hG.only HA.out HCA.out rfl)
  · have hd : decide (n = 1) = false := by simpa using h1
    obtain ⟨wf, hwf⟩ : ∃ wf, set6 w1 w.heap.size (.int .i64 4) (.string ⟨#[]⟩) (.string ⟨#[]⟩) (.string ⟨#[]⟩) (.slice none 0 0) (.slice A n c) = wf := ⟨_, rfl⟩
    have Sf : wf.heap[w.heap.size]? = some (.cells #[.int .i64 4, .string ⟨#[]⟩, .string ⟨#[]⟩, .string ⟨#[]⟩, .slice none 0 0, .slice A n c] 28) := by rw [← hwf]; exact set6_heap _ _ _ _ _ _ HB.out
    have hbf : Below w.heap.size w wf := by rw [← hwf]; exact set6_below hb1 (Nat.le_refl _) _ _ _ _ _ _
    have hl : Hid (togC l = .mk 4 ⟨#[]⟩ ⟨#[]⟩ ⟨#[]⟩ [] l) := Lib.hid (by
      have h := hrow.len
      match l, h with
      | [], _ => rfl
      | [x], h => exact absurd h h1
      | x :: y :: r, _ => rfl)
    obtain ⟨y0, y1, y2, y3, y4, y5⟩ := blk6 Sf
    unfold set6 at hwf
    clear Sf
    go_enter Tryz.func85, Tryz.ntmps85
    go_wp2_with fail
    (try simp only [Exit.inBlock, Exit.then])
    refine bodyPost_ret (v := .agg #[.int .i64 4, .string ⟨#[]⟩, .string ⟨#[]⟩, .string ⟨#[]⟩, .slice none 0 0, .slice A n c]) (by simp [results, Tryz.results85, go_sem, y0, y1, y2, y3, y4, y5]) rfl ?_
    refine ⟨_, rfl, fun G hG => ?_, hbf⟩
    rw [hl.out, RepC]
    have hn2 := hrow.len
    refine ⟨none, 0, A, c, ?_, by simp, by omega, fun h => by simp at h, fun hp => ?_⟩
    · rw [← hn2]; rfl
    · obtain ⟨b, off, hA, hb, hr⟩ := hG.2 hp
      have hlt := RepR.lt' l b off (by intro e; rw [e] at hp; simp at hp) hr
      exact ⟨b, off, hA, hb, RepR.keep (fun b hb hl => ⟨hb, hbf.block b hl⟩) l b off (hbf.block b hlt) hr⟩
end Go.Proofs.YtfildbkkmnfekaaGreatDoor
