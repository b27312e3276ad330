/- other: the first name that is not mentioned. fresh: the first name of a space that is neither mentioned nor avoided. For names.normal: small facts. -/
import Derived.Test.YtfildbkkmnfekaaGreatDoorNumIt
import Derived.Test.YtfildbkkmnfekaaGreatDoorMentQ
import Derived.Test.YtfildbkkmnfekaaGreatDoorMenA
import Derived.Test.YtfildbkkmnfekaaGreatDoorG20
import Derived.Test.YtfildbkkmnfekaaGreatDoorMentP
import Derived.RangeFuncNested
import Derived.RangeFuncBound
import Derived.RangeFuncCalls
import Derived.RangeFuncLeaves
import Derived.Shelf.Abstract
import Derived.Shelf.RegionOpen
import Derived.WalkKit
import Derived.OwnWalkIn
import Derived.TacticsInMore
import Derived.LoopNIn
import Derived.LoopIn
import Derived.Lib.Hide
import Derived.WalkSpells
import Derived.WalkLawsBesides
import Derived.Deep.DeepFit
import Derived.Lib.AppendIntMem
import Derived.BigGuardPart
import Derived.Deep.QuietTactic
import Derived.BigQuiet
import Derived.StillTailTactics
import Derived.Deep.DeepCutAuto
import Derived.Deep.CutBlock
import Derived.Laws.EntriesVeiled
namespace Go.Proofs.YtfildbkkmnfekaaGreatDoor
open Go.RowKit Go.Shelf
attribute [local go_sem] Oper.semAt_some

theorem keptBelow {B : Nat} {M : Nat → Prop} {w A C : World} (h : Below B w A) (hB : B ≤ w.heap.size) (hk : Kept M A C) (hM : ∀ k, k < B → ¬ M k) : Below B w C := h.trans (hk.below (Nat.le_trans hB h.size) hM)
theorem numsTo_last {a : ByteArray} {pre : List ByteArray} {x : ByteArray} (h : pre ++ [x] = numsTo a (pre ++ [x]).length) : x = numB a pre.length ∧ pre = numsTo a pre.length := by
  rw [List.length_append, List.length_singleton, numsTo_snoc] at h
  have h2 := List.append_inj h (by rw [numsTo_len])
  exact ⟨by simpa using h2.2, h2.1⟩
set_option maxHeartbeats 1000000 in
set_option maxRecDepth 100000 in
theorem other_any (g1 g2 : Nat) (m : Ment) (w : World) (hM : MapsAt w g1 g2 m) (hT : Tab w) (I0 : Nat) (hI : IsFirst (fun i => (look eqS (numB uB i) m.2).getD false) I0) (hIb : I0 < 10000000) :
    Calls Tryz.prog 77 #[.agg #[.map (some g1), .map (some g2)]] w fun e w' => e = .returned (.string (numB uB I0)) ∧ Below w.heap.size w w' := by
  refine (callsIn_wide (n := 3)).1 ?_
  obtain ⟨w1, hw1, S1, S2, hsz1, hb1⟩ := alloc2_facts w (.cells #[.map (some g1), .map (some g2)] 66) (.cells #[.string ⟨#[]⟩] 9)
  have HS1 := Lib.hid S1; have HS2 := Lib.hid S2; have HM := Lib.hid hM; have HT := Lib.hid (hT.below hb1); have HI := Lib.hid hI
  have hT1 := hT.lt
  clear S1 S2 hM hI
  refine callsIn_of_wp_marks Tryz.func77 rfl trivial ?_ rfl
  simp only [Tryz.ntmps77, List.size_toArray, List.length_cons, List.length_nil, Nat.reduceAdd, Nat.reduceSub, Array.replicate_succ, Array.replicate_zero, List.push_toArray, List.append_toArray, List.nil_append, List.cons_append]
  gi_wp2_with (refine ⟨trivial, ?_⟩; gi_at_call 94; refine (callsIn_wide.2 (numbered_any uB w1)).mono ?_; rintro e w2 ⟨rfl, hbl, hb2⟩)
  have hb12 := hb1.seq hb2
  have hlt2 := hp_lt hbl
  have hs2 := hb2.size
  refine wpIn_range (gf := 104) (lb := #[.pointer (some ⟨w1.heap.size, 0, none⟩)]) rfl (enters_of Tryz.func104 (by kernel_rfl) rfl)
    (num_iter uB w1.heap.size (I0 + 1) (· = w.heap.size + 1) w2 hbl (HT.out.below hb2) (by omega) (by omega) (by omega) (by decide)) (Kept.refl _ _) ⟨by omega, by omega⟩ (fun _ => rfl)
    (fun _ pre W => pre.length ≤ I0 ∧ Below w2.heap.size w2 W)
    (fun c _ W => c = .ret ∧ W.heap[w.heap.size + 1]? = some (.cells #[.string (numB uB I0)] 9) ∧ Below w.heap.size w W)
    (fun _ pre W h => by have := h.1; omega)
    (fun hi pre A B h h2 h3 hk => ⟨h.1, keptBelow h.2 (Nat.le_refl _) hk (by intro k hk; omega)⟩)
    (fun hi A h _ _ => h)
    (fun c pre A B h hk => ⟨h.1, hp_kept h.2.1 hk (by omega), keptBelow h.2.2 (Nat.le_refl _) hk (by intro k hk; omega)⟩)
    (fun W hb _ => ⟨Nat.zero_le _, hb⟩)
    (fun x _ => { tmps := #[.agg #[.map (some g1), .map (some g2)], .pointer (some ⟨w.heap.size, 0, none⟩), .pointer (some ⟨w.heap.size + 1, 0, none⟩), .string x, .func (.func 104) #[] #[.pointer (some ⟨w1.heap.size, 0, none⟩)], .string x, undef, undef, undef, undef, undef, undef], defers := [] })
    (fun _ W => W) (fun _ W => Below.refl _ _) ?assign ?body ?done ?stop
  case assign =>
    intro m l x W K hK
    gi_wp2
    exact hK
  case body =>
    rintro mm l hi pre x W W2 ⟨hpl, hbW⟩ hsp hlo hhi hkW
    obtain ⟨hx, hpre⟩ := numsTo_last hsp
    subst hx
    have T1 := hp_below (hp_below HS1.out hb2) hbW
    obtain ⟨c0, c1⟩ := blk2 T1
    have T2 := hp_below (hp_below HS2.out hb2) hbW
    have r0 := blk1 T2
    have fr := frozen_of_row W2 (w.heap.size + 1) 0 _ _ T2
    have hm2 : MapIs W2 g2 stE m.2 := ((HM.out.2.below hb1).below hb2).below hbW
    obtain ⟨v, hv⟩ : ∃ v, (look eqS (numB uB pre.length) m.2).getD false = v := ⟨_, rfl⟩
    have hlk := run_look keyStr (mt := 61) (by kernel_rfl) (fun W => by kernel_rfl) hm2 (numB uB pre.length) false
    have hlk' : (Instr.lookup 61 (.map (some g2)) (.string (numB uB pre.length)) false).run Tryz.prog W2 = .ok (.bool v) W2 := by rw [← hv]; exact hlk
    have hK1 : v = false → pre.length = I0 := by
      intro h
      rcases Nat.lt_or_ge pre.length I0 with h1 | h1
      · have := HI.out.2 _ h1; simp only at this; rw [hv, h] at this; cases this
      · omega
    have hK2 : v = true → pre.length < I0 := by
      intro h
      rcases Nat.lt_or_ge pre.length I0 with h1 | h1
      · exact h1
      · have h2 : pre.length = I0 := by omega
        have := HI.out.1; simp only at this; rw [← h2, hv, h] at this; cases this
    have HK1 := Lib.hid hK1; have HK2 := Lib.hid hK2; have HT2 := Lib.hid T2; have HBW := Lib.hid hbW
    clear hlk hK1 hK2 hm2 hv T1 T2 hsp hpre
    cases v
    · have HPI := Lib.hid (HK1.out rfl)
      clear HK1 HK2
      gi_wp2
      have hpi := HPI.out
      exact ⟨(Kept.refl _ W2).setCell (p := ⟨w.heap.size + 1, 0, none⟩) (.inl (.inl ⟨by show w.heap.size + 1 < w2.heap.size + 2; omega, rfl⟩)) _, rfl, by rw [← hpi]; exact hp_set1 HT2.out, (hb12.trans (HBW.out.mono (by omega))).setCell (p := ⟨w.heap.size + 1, 0, none⟩) (by simp) _⟩
    · have HPI := Lib.hid (HK2.out rfl)
      clear HK1 HK2
      gi_wp2
      refine ⟨Kept.refl _ _, ?_, HBW.out⟩
      have h9 := HPI.out
      rw [List.length_append, List.length_singleton]; exact h9
  case done =>
    rintro hi xs W h
    exact h.elim
  case stop =>
    rintro c pre W hsp ⟨rfl, hres, hbW⟩ hK
    gi_wp2
    refine ⟨by simp, .inl ⟨_, _, rfl, run_takeDeferred hK, ?_⟩⟩
    have hk : Kept (fun k => k = w2.heap.size) W (W.putObj w2.heap.size (.deferred none)) := kept_putObj _ _ _ rfl
    have z0 := blk1 (hp_kept hres hk (by omega))
    exact ⟨.string (numB uB I0), by simp [results, Tryz.results77, go_sem, z0], rfl, keptBelow hbW (Nat.le_refl _) hk (by intro k hk; omega)⟩
end Go.Proofs.YtfildbkkmnfekaaGreatDoor
namespace Go.Proofs.YtfildbkkmnfekaaGreatDoor
open Go.RowKit Go.Shelf
attribute [local go_sem] Oper.semAt_some

set_option maxHeartbeats 1000000 in
set_option maxRecDepth 100000 in
theorem fresh_any (g1 g2 : Nat) (m : Ment) (a : ByteArray) (w : World) (hM : MapsAt w g1 g2 m) (hT : Tab w) (I0 : Nat) (hI : IsFirst (fun i => (look eqN (a, numB xB i) m.1).isSome) I0) (hIb : I0 < 10000000) :
    Calls Tryz.prog 78 #[.agg #[.map (some g1), .map (some g2)], .string a] w fun e w' => e = .returned (.agg #[.string a, .string (numB xB I0)]) ∧ Below w.heap.size w w' := by
  refine (callsIn_wide (n := 3)).1 ?_
  obtain ⟨w1, hw1, S1, S2, S3, hsz1, hb1⟩ := alloc3_facts w (.cells #[.map (some g1), .map (some g2)] 66) (.cells #[.string a] 9) (.cells #[.string ⟨#[]⟩, .string ⟨#[]⟩] 24)
  have HS1 := Lib.hid S1; have HS2 := Lib.hid S2; have HS3 := Lib.hid S3; have HM := Lib.hid hM; have HT := Lib.hid (hT.below hb1); have HI := Lib.hid hI
  have hT1 := hT.lt
  clear S1 S2 S3 hM hI
  refine callsIn_of_wp_marks Tryz.func78 rfl trivial ?_ rfl
  simp only [Tryz.ntmps78, List.size_toArray, List.length_cons, List.length_nil, Nat.reduceAdd, Nat.reduceSub, Array.replicate_succ, Array.replicate_zero, List.push_toArray, List.append_toArray, List.nil_append, List.cons_append]
  gi_wp2_with (refine ⟨trivial, ?_⟩; gi_at_call 94; refine (callsIn_wide.2 (numbered_any xB w1)).mono ?_; rintro e w2 ⟨rfl, hbl, hb2⟩)
  have hb12 := hb1.seq hb2
  have hlt2 := hp_lt hbl
  have hs2 := hb2.size
  refine wpIn_range (gf := 104) (lb := #[.pointer (some ⟨w1.heap.size, 0, none⟩)]) rfl (enters_of Tryz.func104 (by kernel_rfl) rfl)
    (num_iter xB w1.heap.size (I0 + 1) (· = w.heap.size + 1 + 1) w2 hbl (HT.out.below hb2) (by omega) (by omega) (by omega) (by decide)) (Kept.refl _ _) ⟨by omega, by omega⟩ (fun _ => rfl)
    (fun _ pre W => pre.length ≤ I0 ∧ Below w2.heap.size w2 W)
    (fun c _ W => c = .ret ∧ W.heap[w.heap.size + 1 + 1]? = some (.cells #[.string a, .string (numB xB I0)] 24) ∧ Below w.heap.size w W)
    (fun _ pre W h => by have := h.1; omega)
    (fun hi pre A B h h2 h3 hk => ⟨h.1, keptBelow h.2 (Nat.le_refl _) hk (by intro k hk; omega)⟩)
    (fun hi A h _ _ => h)
    (fun c pre A B h hk => ⟨h.1, hp_kept h.2.1 hk (by omega), keptBelow h.2.2 (Nat.le_refl _) hk (by intro k hk; omega)⟩)
    (fun W hb _ => ⟨Nat.zero_le _, hb⟩)
    (fun x _ => { tmps := #[.agg #[.map (some g1), .map (some g2)], .string a, .pointer (some ⟨w.heap.size, 0, none⟩), .pointer (some ⟨w.heap.size + 1, 0, none⟩), .pointer (some ⟨w.heap.size + 1 + 1, 0, none⟩), .string x, undef, undef, undef, .func (.func 104) #[] #[.pointer (some ⟨w1.heap.size, 0, none⟩)], .string x, undef, undef, undef, undef, undef, undef, undef, undef, undef, undef, undef, undef, undef, undef], defers := [] })
    (fun _ W => W) (fun _ W => Below.refl _ _) ?assign ?body ?done ?stop
  case assign =>
    intro m l x W K hK
    gi_wp2
    exact hK
  case body =>
    rintro mm l hi pre x W W2 ⟨hpl, hbW⟩ hsp hlo hhi hkW
    have hhi2 : hi ≤ W2.heap.size := Nat.le_trans hhi hkW.size
    obtain ⟨hx, hpre⟩ := numsTo_last hsp
    subst hx
    obtain ⟨w5, hw5, S5, hsz5, hb5⟩ := alloc_facts W2 (.cells #[.string a, .string (numB xB pre.length)] 24)
    have hb25 := hbW.trans (hb5.mono hbW.size)
    have T1 := hp_below (hp_below HS1.out hb2) hb25
    obtain ⟨c0, c1⟩ := blk2 T1
    have e0 := blk1 (hp_below (hp_below HS2.out hb2) hbW)
    have T3 := hp_below (hp_below HS3.out hb2) hb25
    obtain ⟨r0, r1⟩ := blk2 T3
    obtain ⟨s0, s1⟩ := blk2 S5
    have f0 := frozen_of_row w5 (w.heap.size + 1 + 1) 0 _ _ T3
    have f1 := frozen_of_row w5 (w.heap.size + 1 + 1) 1 _ _ T3
    have hm2 : MapIs w5 g1 nmE m.1 := ((HM.out.1.below hb1).below hb2).below hb25
    obtain ⟨v, hv⟩ : ∃ v, (look eqN (a, numB xB pre.length) m.1).isSome = v := ⟨_, rfl⟩
    obtain ⟨u, hu⟩ : ∃ u, (look eqN (a, numB xB pre.length) m.1).getD false = u := ⟨_, rfl⟩
    have hlk := run_look keyNm (mt := 64) (by kernel_rfl) (fun W => by kernel_rfl) hm2 (a, numB xB pre.length) true
    rw [hv, hu] at hlk
    have hlk' : (Instr.lookup 64 (.map (some g1)) (.agg #[.string a, .string (numB xB pre.length)]) true).run Tryz.prog w5 = .ok (.tuple #[.bool u, .bool v]) w5 := hlk
    have hK1 : v = false → pre.length = I0 := by
      intro h
      rcases Nat.lt_or_ge pre.length I0 with h1 | h1
      · have := HI.out.2 _ h1; simp only at this; rw [hv, h] at this; cases this
      · omega
    have hK2 : v = true → pre.length < I0 := by
      intro h
      rcases Nat.lt_or_ge pre.length I0 with h1 | h1
      · exact h1
      · have h2 : pre.length = I0 := by omega
        have := HI.out.1; simp only at this; rw [← h2, hv, h] at this; cases this
    have HK1 := Lib.hid hK1; have HK2 := Lib.hid hK2; have HT3 := Lib.hid T3; have HBW := Lib.hid hb25
    have hk25 : Kept (fun k => (k < w2.heap.size + 2 ∧ k = w.heap.size + 1 + 1) ∨ hi ≤ k) W2 w5 := Kept.of_below hb5
    have HK25 := Lib.hid hk25
    clear hlk hK1 hK2 hm2 hv hu T1 T3 hsp hpre S5 hk25 hb25
    cases v
    · have HPI := Lib.hid (HK1.out rfl)
      clear HK1 HK2
      gi_wp2
      have hpi := HPI.out
      exact ⟨(HK25.out.setCell (p := ⟨w.heap.size + 1 + 1, 0, none⟩) (.inl (.inl ⟨by show w.heap.size + 1 + 1 < w2.heap.size + 2; omega, rfl⟩)) _).setCell (p := ⟨w.heap.size + 1 + 1, 1, none⟩) (.inl (.inl ⟨by show w.heap.size + 1 + 1 < w2.heap.size + 2; omega, rfl⟩)) _, rfl, by rw [← hpi]; exact hp_set2_1 (hp_set2_0 HT3.out), ((hb12.trans (HBW.out.mono (by omega))).setCell (p := ⟨w.heap.size + 1 + 1, 0, none⟩) (by simp; omega) _).setCell (p := ⟨w.heap.size + 1 + 1, 1, none⟩) (by simp; omega) _⟩
    · have HPI := Lib.hid (HK2.out rfl)
      clear HK1 HK2
      gi_wp2
      refine ⟨HK25.out, ?_, HBW.out⟩
      have h9 := HPI.out
      rw [List.length_append, List.length_singleton]; exact h9
  case done =>
    rintro hi xs W h
    exact h.elim
  case stop =>
    rintro c pre W hsp ⟨rfl, hres, hbW⟩ hK
    gi_wp2
    refine ⟨by simp, .inl ⟨_, _, rfl, run_takeDeferred hK, ?_⟩⟩
    have hk : Kept (fun k => k = w2.heap.size) W (W.putObj w2.heap.size (.deferred none)) := kept_putObj _ _ _ rfl
    obtain ⟨z0, z1⟩ := blk2 (hp_kept hres hk (by omega))
    exact ⟨.agg #[.string a, .string (numB xB I0)], by simp [results, Tryz.results78, go_sem, z0, z1], rfl, keptBelow hbW (Nat.le_refl _) hk (by intro k hk; omega)⟩
end Go.Proofs.YtfildbkkmnfekaaGreatDoor
namespace Go.Proofs.YtfildbkkmnfekaaGreatDoor
open Go.RowKit

/-- A new class whose last two cells are stored as they are: the walk leaves the two stores. -/
theorem alloc_spN (w : World) (v0 v1 v2 v3 : Value) : ∃ wa wb, w.alloc (.cells #[v0, v1, v2, v3, .slice none 0 0, .slice none 0 0] 28) = wa ∧ (wa.setCell ⟨w.heap.size, 4, none⟩ (.slice none 0 0)).setCell ⟨w.heap.size, 5, none⟩ (.slice none 0 0) = wb ∧
    wa.heap[w.heap.size]? = some (.cells #[v0, v1, v2, v3, .slice none 0 0, .slice none 0 0] 28) ∧ wb.heap[w.heap.size]? = some (.cells #[v0, v1, v2, v3, .slice none 0 0, .slice none 0 0] 28) ∧ w.heap.size < wb.heap.size ∧ Below w.heap.size w wb := by
  have h0 := heap_alloc_new w (.cells #[v0, v1, v2, v3, .slice none 0 0, .slice none 0 0] 28)
  have h4 := hp_set (i := 4) (v := .slice none 0 0) h0
  have h5 := hp_set (i := 5) (v := .slice none 0 0) h4
  exact ⟨_, _, rfl, rfl, h0, by rw [h5]; rfl, by simp [World.setCell], ((((Below.refl _ _).alloc (Nat.le_refl _) _).setCell (p := ⟨w.heap.size, 4, none⟩) (Nat.le_refl _) _).setCell (p := ⟨w.heap.size, 5, none⟩) (Nat.le_refl _) _)⟩
theorem MapsAt.below {w w' : World} {g1 g2 : Nat} {m : Ment} (h : MapsAt w g1 g2 m) (hb : Below w.heap.size w w') : MapsAt w' g1 g2 m := ⟨h.1.below hb, h.2.below hb⟩
end Go.Proofs.YtfildbkkmnfekaaGreatDoor
