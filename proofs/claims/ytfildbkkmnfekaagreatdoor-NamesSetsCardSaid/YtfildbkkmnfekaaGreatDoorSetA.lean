/- The walk of NamesSets. -/
import Derived.Test.YtfildbkkmnfekaaGreatDoorSetP
import Derived.Test.YtfildbkkmnfekaaGreatDoorRefD
import Derived.Test.YtfildbkkmnfekaaGreatDoorSince
import Derived.WalkKit
import Derived.WalkSpells
import Derived.WalkLawsBesides
import Derived.BigGuardPart
import Derived.Lib.Hide
import Derived.Deep.QuietTactic
import Derived.BigQuiet
import Derived.StillTailTactics
import Derived.Deep.DeepCutAuto
import Derived.Deep.CutBlock
import Derived.Laws.EntriesVeiled
namespace Go.Proofs.YtfildbkkmnfekaaGreatDoor
open Go.RowKit

theorem less_val {v : Bool} (a b c d : ByteArray) (w : World) (hv : ltN (a, b) (c, d) = v) :
    Calls Tryz.prog 17 #[.agg #[.string a, .string b], .agg #[.string c, .string d]] w fun e w' => e = .returned (.bool v) ∧ Below w.heap.size w w' := by subst hv; exact less_any a b c d w
theorem lessR_val {v : Bool} (a b c d : ByteArray) (w : World) (hv : ltN (a, b) (c, d) = v) :
    Calls Tryz.prog 18 #[.agg #[.string a, .string b], .agg #[.string c, .string d]] w fun e w' => e = .returned (.bool v) ∧ Below w.heap.size w w' := by subst hv; exact lessR_any a b c d w
set_option maxHeartbeats 4000000 in
set_option maxRecDepth 100000 in
theorem NamesSets_any (c1 c2 : Cls) (cs1 cs2 : List Value) (a b : ByteArray) (w : World) (F1 F2 : Nat → Prop) (hr1 : RepC w F1 c1 cs1) (hr2 : RepC w F2 c2 cs2) (hTw : Tab w) :
    Calls Tryz.prog 4 #[.agg cs1.toArray, .agg cs2.toArray, .agg #[.string a, .string b]] w fun e w' => e = .returned (.bool true) ∧ Below w.heap.size w w' := by
  have hr1' := hr1.here
  have hr2' := hr2.here
  obtain ⟨k1, ns1, nl1, s1, A1, n1, c01, A1', n1', c01', rfl⟩ := hr1.cells
  obtain ⟨k2, ns2, nl2, s2, A2, n2, c02, A2', n2', c02', rfl⟩ := hr2.cells
  obtain ⟨w1, hw1, S1, S2, S3, hsz1, hb1⟩ := alloc3_facts w (.cells #[.int .i64 k1, .string ns1, .string nl1, .string s1, .slice A1 n1 c01, .slice A1' n1' c01'] 28) (.cells #[.int .i64 k2, .string ns2, .string nl2, .string s2, .slice A2 n2 c02, .slice A2' n2' c02'] 28) (.cells #[.string a, .string b] 24)
  have HHp1 := Lib.hid S1; have HHq1 := Lib.hid S2; have HHr1 := Lib.hid S3; have HB1 := Lib.hid hb1
  have HT1 := Lib.hid (hTw.below HB1.out)
  have HR1 := Lib.hid hr1'; have HR2 := Lib.hid hr2'
  have hs1 : w.heap.size + 1 + 1 < w1.heap.size := hsz1
  clear S1 S2 S3 hr1 hr2 hr1' hr2'
  obtain ⟨ga, hga⟩ : ∃ g, decide (400 < sizeC 40 c1) = g := ⟨_, rfl⟩
  obtain ⟨gb, hgb⟩ : ∃ g, decide (400 < sizeC 40 c2) = g := ⟨_, rfl⟩
  have HGA := Lib.hid hga; have HGB := Lib.hid hgb
  clear hga hgb
  cases ga
  rotate_left 1
  · clear HR2 HGB
    obtain ⟨p0, p1, p2, p3, p4, p5⟩ := blk6 HHp1.out
    obtain ⟨q0, q1, q2, q3, q4, q5⟩ := blk6 HHq1.out
    obtain ⟨r0, r1⟩ := blk2 HHr1.out
    go_enter Tryz.func4, Tryz.ntmps4
    go_wp2_with fail
    refine (great_any c1 _ w1 _ (HR1.out.below (HB1.out.mono (Nat.le_refl _))) HGA.out).mono ?_
    rintro e w2 ⟨rfl, hb2⟩
    clear p0 p1 p2 p3 p4 p5 q0 q1 q2 q3 q4 q5 r0 r1
    have HHp2 := Lib.hid (hp_below HHp1.out hb2)
    have HHq2 := Lib.hid (hp_below HHq1.out hb2)
    have HHr2 := Lib.hid (hp_below HHr1.out hb2)
    have HB2 := Lib.hid (HB1.out.seq hb2)
    have hs2 := hb2.size
    have HT2 := Lib.hid (hTw.below HB2.out)
    obtain ⟨p0, p1, p2, p3, p4, p5⟩ := blk6 HHp2.out
    obtain ⟨q0, q1, q2, q3, q4, q5⟩ := blk6 HHq2.out
    obtain ⟨r0, r1⟩ := blk2 HHr2.out
    go_wp2_with fail
    refine (shown_any w2 HT2.out).mono ?_
    rintro e w3 ⟨rfl, hb3⟩
    clear p0 p1 p2 p3 p4 p5 q0 q1 q2 q3 q4 q5 r0 r1
    have HHp3 := Lib.hid (hp_below HHp2.out hb3)
    have HHq3 := Lib.hid (hp_below HHq2.out hb3)
    have HHr3 := Lib.hid (hp_below HHr2.out hb3)
    have HB3 := Lib.hid (HB2.out.seq hb3)
    have hs3 := hb3.size
    have HT3 := Lib.hid (hTw.below HB3.out)
    go_wp2_with fail
    go_ret
    exact ⟨rfl, HB3.out⟩
  cases gb
  rotate_left 1
  ·
    obtain ⟨p0, p1, p2, p3, p4, p5⟩ := blk6 HHp1.out
    obtain ⟨q0, q1, q2, q3, q4, q5⟩ := blk6 HHq1.out
    obtain ⟨r0, r1⟩ := blk2 HHr1.out
    go_enter Tryz.func4, Tryz.ntmps4
    go_wp2_with fail
    refine (great_any c1 _ w1 _ (HR1.out.below (HB1.out.mono (Nat.le_refl _))) HGA.out).mono ?_
    rintro e w2 ⟨rfl, hb2⟩
    clear p0 p1 p2 p3 p4 p5 q0 q1 q2 q3 q4 q5 r0 r1
    have HHp2 := Lib.hid (hp_below HHp1.out hb2)
    have HHq2 := Lib.hid (hp_below HHq1.out hb2)
    have HHr2 := Lib.hid (hp_below HHr1.out hb2)
    have HB2 := Lib.hid (HB1.out.seq hb2)
    have hs2 := hb2.size
    have HT2 := Lib.hid (hTw.below HB2.out)
    obtain ⟨p0, p1, p2, p3, p4, p5⟩ := blk6 HHp2.out
    obtain ⟨q0, q1, q2, q3, q4, q5⟩ := blk6 HHq2.out
    obtain ⟨r0, r1⟩ := blk2 HHr2.out
    go_wp2_with fail
    refine (great_any c2 _ w2 _ (HR2.out.below (HB2.out.mono (Nat.le_refl _))) HGB.out).mono ?_
    rintro e w3 ⟨rfl, hb3⟩
    clear p0 p1 p2 p3 p4 p5 q0 q1 q2 q3 q4 q5 r0 r1
    have HHp3 := Lib.hid (hp_below HHp2.out hb3)
    have HHq3 := Lib.hid (hp_below HHq2.out hb3)
    have HHr3 := Lib.hid (hp_below HHr2.out hb3)
    have HB3 := Lib.hid (HB2.out.seq hb3)
    have hs3 := hb3.size
    have HT3 := Lib.hid (hTw.below HB3.out)
    obtain ⟨p0, p1, p2, p3, p4, p5⟩ := blk6 HHp3.out
    obtain ⟨q0, q1, q2, q3, q4, q5⟩ := blk6 HHq3.out
    obtain ⟨r0, r1⟩ := blk2 HHr3.out
    go_wp2_with fail
    refine (shown_any w3 HT3.out).mono ?_
    rintro e w4 ⟨rfl, hb4⟩
    clear p0 p1 p2 p3 p4 p5 q0 q1 q2 q3 q4 q5 r0 r1
    have HHp4 := Lib.hid (hp_below HHp3.out hb4)
    have HHq4 := Lib.hid (hp_below HHq3.out hb4)
    have HHr4 := Lib.hid (hp_below HHr3.out hb4)
    have HB4 := Lib.hid (HB3.out.seq hb4)
    have hs4 := hb4.size
    have HT4 := Lib.hid (hTw.below HB4.out)
    go_wp2_with fail
    go_ret
    exact ⟨rfl, HB4.out⟩
  by_cases hlb : 1000 < b.size
  · have hd1 : decide ((1000 : Int) < (b.size : Int)) = true := by simp; omega
    obtain ⟨p0, p1, p2, p3, p4, p5⟩ := blk6 HHp1.out
    obtain ⟨q0, q1, q2, q3, q4, q5⟩ := blk6 HHq1.out
    obtain ⟨r0, r1⟩ := blk2 HHr1.out
    go_enter Tryz.func4, Tryz.ntmps4
    go_wp2_with fail
    refine (great_any c1 _ w1 _ (HR1.out.below (HB1.out.mono (Nat.le_refl _))) HGA.out).mono ?_
    rintro e w2 ⟨rfl, hb2⟩
    clear p0 p1 p2 p3 p4 p5 q0 q1 q2 q3 q4 q5 r0 r1
    have HHp2 := Lib.hid (hp_below HHp1.out hb2)
    have HHq2 := Lib.hid (hp_below HHq1.out hb2)
    have HHr2 := Lib.hid (hp_below HHr1.out hb2)
    have HB2 := Lib.hid (HB1.out.seq hb2)
    have hs2 := hb2.size
    have HT2 := Lib.hid (hTw.below HB2.out)
    obtain ⟨p0, p1, p2, p3, p4, p5⟩ := blk6 HHp2.out
    obtain ⟨q0, q1, q2, q3, q4, q5⟩ := blk6 HHq2.out
    obtain ⟨r0, r1⟩ := blk2 HHr2.out
    go_wp2_with fail
    refine (great_any c2 _ w2 _ (HR2.out.below (HB2.out.mono (Nat.le_refl _))) HGB.out).mono ?_
    rintro e w3 ⟨rfl, hb3⟩
    clear p0 p1 p2 p3 p4 p5 q0 q1 q2 q3 q4 q5 r0 r1
    have HHp3 := Lib.hid (hp_below HHp2.out hb3)
    have HHq3 := Lib.hid (hp_below HHq2.out hb3)
    have HHr3 := Lib.hid (hp_below HHr2.out hb3)
    have HB3 := Lib.hid (HB2.out.seq hb3)
    have hs3 := hb3.size
    have HT3 := Lib.hid (hTw.below HB3.out)
    obtain ⟨p0, p1, p2, p3, p4, p5⟩ := blk6 HHp3.out
    obtain ⟨q0, q1, q2, q3, q4, q5⟩ := blk6 HHq3.out
    obtain ⟨r0, r1⟩ := blk2 HHr3.out
    go_wp2_with fail
    refine (shown_any w3 HT3.out).mono ?_
    rintro e w4 ⟨rfl, hb4⟩
    clear p0 p1 p2 p3 p4 p5 q0 q1 q2 q3 q4 q5 r0 r1
    have HHp4 := Lib.hid (hp_below HHp3.out hb4)
    have HHq4 := Lib.hid (hp_below HHq3.out hb4)
    have HHr4 := Lib.hid (hp_below HHr3.out hb4)
    have HB4 := Lib.hid (HB3.out.seq hb4)
    have hs4 := hb4.size
    have HT4 := Lib.hid (hTw.below HB4.out)
    go_wp2_with fail
    go_ret
    exact ⟨rfl, HB4.out⟩
  have hd1 : decide ((1000 : Int) < (b.size : Int)) = false := by simp; omega
  by_cases hla : 1000 < a.size
  · have hd2 : decide ((1000 : Int) < (a.size : Int)) = true := by simp; omega
    obtain ⟨p0, p1, p2, p3, p4, p5⟩ := blk6 HHp1.out
    obtain ⟨q0, q1, q2, q3, q4, q5⟩ := blk6 HHq1.out
    obtain ⟨r0, r1⟩ := blk2 HHr1.out
    go_enter Tryz.func4, Tryz.ntmps4
    go_wp2_with fail
    refine (great_any c1 _ w1 _ (HR1.out.below (HB1.out.mono (Nat.le_refl _))) HGA.out).mono ?_
    rintro e w2 ⟨rfl, hb2⟩
    clear p0 p1 p2 p3 p4 p5 q0 q1 q2 q3 q4 q5 r0 r1
    have HHp2 := Lib.hid (hp_below HHp1.out hb2)
    have HHq2 := Lib.hid (hp_below HHq1.out hb2)
    have HHr2 := Lib.hid (hp_below HHr1.out hb2)
    have HB2 := Lib.hid (HB1.out.seq hb2)
    have hs2 := hb2.size
    have HT2 := Lib.hid (hTw.below HB2.out)
    obtain ⟨p0, p1, p2, p3, p4, p5⟩ := blk6 HHp2.out
    obtain ⟨q0, q1, q2, q3, q4, q5⟩ := blk6 HHq2.out
    obtain ⟨r0, r1⟩ := blk2 HHr2.out
    go_wp2_with fail
    refine (great_any c2 _ w2 _ (HR2.out.below (HB2.out.mono (Nat.le_refl _))) HGB.out).mono ?_
    rintro e w3 ⟨rfl, hb3⟩
    clear p0 p1 p2 p3 p4 p5 q0 q1 q2 q3 q4 q5 r0 r1
    have HHp3 := Lib.hid (hp_below HHp2.out hb3)
    have HHq3 := Lib.hid (hp_below HHq2.out hb3)
    have HHr3 := Lib.hid (hp_below HHr2.out hb3)
    have HB3 := Lib.hid (HB2.out.seq hb3)
    have hs3 := hb3.size
    have HT3 := Lib.hid (hTw.below HB3.out)
    obtain ⟨p0, p1, p2, p3, p4, p5⟩ := blk6 HHp3.out
    obtain ⟨q0, q1, q2, q3, q4, q5⟩ := blk6 HHq3.out
    obtain ⟨r0, r1⟩ := blk2 HHr3.out
    go_wp2_with fail
    refine (shown_any w3 HT3.out).mono ?_
    rintro e w4 ⟨rfl, hb4⟩
    clear p0 p1 p2 p3 p4 p5 q0 q1 q2 q3 q4 q5 r0 r1
    have HHp4 := Lib.hid (hp_below HHp3.out hb4)
    have HHq4 := Lib.hid (hp_below HHq3.out hb4)
    have HHr4 := Lib.hid (hp_below HHr3.out hb4)
    have HB4 := Lib.hid (HB3.out.seq hb4)
    have hs4 := hb4.size
    have HT4 := Lib.hid (hTw.below HB4.out)
    go_wp2_with fail
    go_ret
    exact ⟨rfl, HB4.out⟩
  have hd2 : decide ((1000 : Int) < (a.size : Int)) = false := by simp; omega
  have hz1 := size_small (c := c1) (by have := HGA.out; simp at this; omega)
  have hz2 := size_small (c := c2) (by have := HGB.out; simp at this; omega)
  have HN11 : Hid (numL [c1, c1] < 1000) := Lib.hid (by rw [numL, numL, numL]; omega)
  have HN12 : Hid (numL [c1, c2] < 1000) := Lib.hid (by rw [numL, numL, numL]; omega)
  obtain ⟨re, hre⟩ : ∃ re, hasRes (chkR c1) (validB a b) (inC c1 a b) = re := ⟨_, rfl⟩
  have HRE2 := Lib.hid hre
  have HRE : Hid (hasRes (chkN c1) (validB a b) (hasC c1 a b) = re) := Lib.hid (by rw [hasRes_eq]; exact hre)
  obtain ⟨ec, hec⟩ : ∃ ec, chkR c1 = ec := ⟨_, rfl⟩
  have HE2 := Lib.hid hec
  have HE1 : Hid (chkN c1 = ec) := Lib.hid (by rw [chk_eq]; exact hec)
  obtain ⟨lt, hlt⟩ : ∃ lt, ltN (a, b) (ns1, nl1) = lt := ⟨_, rfl⟩
  have HLT := Lib.hid hlt
  obtain ⟨RN, hRN⟩ : ∃ R, resF (chkR c1) (normF chkR (fHow 0 c1 c1) (addL [c1, c1] ([], []))) = R := ⟨_, rfl⟩
  have HN := Lib.hid hRN
  have HDN : Hid (dpC RN.1 ≤ 40) := Lib.hid (by rw [← hRN]; exact resF_dp _ _ _)
  obtain ⟨RJ, hRJ⟩ : ∃ R, resF (orE (chkR c1) (chkR c2)) (normF chkR (fHow 1 c1 c2) (addL [c1, c2] ([], []))) = R := ⟨_, rfl⟩
  have HJ := Lib.hid hRJ
  have HDJ : Hid (dpC RJ.1 ≤ 40) := Lib.hid (by rw [← hRJ]; exact resF_dp _ _ _)
  obtain ⟨RM, hRM⟩ : ∃ R, resF (orE (chkR c1) (chkR c2)) (normF chkR (fHow 2 c1 c2) (addL [c1, c2] ([], []))) = R := ⟨_, rfl⟩
  have HM := Lib.hid hRM
  have HDM : Hid (dpC RM.1 ≤ 40) := Lib.hid (by rw [← hRM]; exact resF_dp _ _ _)
  obtain ⟨RD, hRD⟩ : ∃ R, resF (orE (chkR c1) (chkR c2)) (normF chkR (fHow 3 c1 c2) (addL [c1, c2] ([], []))) = R := ⟨_, rfl⟩
  have HD := Lib.hid hRD
  have HDD : Hid (dpC RD.1 ≤ 40) := Lib.hid (by rw [← hRD]; exact resF_dp _ _ _)
  have hne1 : ∀ x : Bool, (x != x) = false := fun x => by cases x <;> rfl
  have hb1' : (re.1 != re.1) = false := hne1 _
  have hb2' : (re.2 != re.2) = false := by simp
  have hb3' : (ec != ec) = false := by simp
  have hb4' : (lt != lt) = false := hne1 _
  clear hre hec hlt hRN hRJ hRM hRD hne1 hlb hla hz1 hz2
  obtain ⟨p0, p1, p2, p3, p4, p5⟩ := blk6 HHp1.out
  obtain ⟨q0, q1, q2, q3, q4, q5⟩ := blk6 HHq1.out
  obtain ⟨r0, r1⟩ := blk2 HHr1.out
  go_enter Tryz.func4, Tryz.ntmps4
  go_wp2_with fail
  refine (great_any c1 _ w1 _ (HR1.out.below (HB1.out.mono (Nat.le_refl _))) HGA.out).mono ?_
  rintro e w2 ⟨rfl, hb2⟩
  clear p0 p1 p2 p3 p4 p5 q0 q1 q2 q3 q4 q5 r0 r1
  have HHp2 := Lib.hid (hp_below HHp1.out hb2)
  have HHq2 := Lib.hid (hp_below HHq1.out hb2)
  have HHr2 := Lib.hid (hp_below HHr1.out hb2)
  have HB2 := Lib.hid (HB1.out.seq hb2)
  have hs2 := hb2.size
  have HT2 := Lib.hid (hTw.below HB2.out)
  obtain ⟨p0, p1, p2, p3, p4, p5⟩ := blk6 HHp2.out
  obtain ⟨q0, q1, q2, q3, q4, q5⟩ := blk6 HHq2.out
  obtain ⟨r0, r1⟩ := blk2 HHr2.out
  go_wp2_with fail
  refine (great_any c2 _ w2 _ (HR2.out.below (HB2.out.mono (Nat.le_refl _))) HGB.out).mono ?_
  rintro e w3 ⟨rfl, hb3⟩
  clear p0 p1 p2 p3 p4 p5 q0 q1 q2 q3 q4 q5 r0 r1
  have HHp3 := Lib.hid (hp_below HHp2.out hb3)
  have HHq3 := Lib.hid (hp_below HHq2.out hb3)
  have HHr3 := Lib.hid (hp_below HHr2.out hb3)
  have HB3 := Lib.hid (HB2.out.seq hb3)
  have hs3 := hb3.size
  have HT3 := Lib.hid (hTw.below HB3.out)
  obtain ⟨p0, p1, p2, p3, p4, p5⟩ := blk6 HHp3.out
  obtain ⟨q0, q1, q2, q3, q4, q5⟩ := blk6 HHq3.out
  obtain ⟨r0, r1⟩ := blk2 HHr3.out
  go_wp2_with fail
  refine (Has_any a b c1 _ w3 _ (HR1.out.below (HB3.out.mono (Nat.le_refl _)))).mono ?_
  rintro e w4 ⟨rfl, hb4⟩
  clear p0 p1 p2 p3 p4 p5 q0 q1 q2 q3 q4 q5 r0 r1
  have HHp4 := Lib.hid (hp_below HHp3.out hb4)
  have HHq4 := Lib.hid (hp_below HHq3.out hb4)
  have HHr4 := Lib.hid (hp_below HHr3.out hb4)
  have HB4 := Lib.hid (HB3.out.seq hb4)
  have hs4 := hb4.size
  have HT4 := Lib.hid (hTw.below HB4.out)
  rw [HRE.out]
  obtain ⟨p0, p1, p2, p3, p4, p5⟩ := blk6 HHp4.out
  obtain ⟨q0, q1, q2, q3, q4, q5⟩ := blk6 HHq4.out
  obtain ⟨r0, r1⟩ := blk2 HHr4.out
  go_wp2_with fail
  refine (refHas_any a b c1 _ w4 _ (HR1.out.below (HB4.out.mono (Nat.le_refl _)))).mono ?_
  rintro e w5 ⟨rfl, hb5⟩
  clear p0 p1 p2 p3 p4 p5 q0 q1 q2 q3 q4 q5 r0 r1
  have HHp5 := Lib.hid (hp_below HHp4.out hb5)
  have HHq5 := Lib.hid (hp_below HHq4.out hb5)
  have HHr5 := Lib.hid (hp_below HHr4.out hb5)
  have HB5 := Lib.hid (HB4.out.seq hb5)
  have hs5 := hb5.size
  have HT5 := Lib.hid (hTw.below HB5.out)
  rw [HRE2.out]
  obtain ⟨p0, p1, p2, p3, p4, p5⟩ := blk6 HHp5.out
  obtain ⟨q0, q1, q2, q3, q4, q5⟩ := blk6 HHq5.out
  obtain ⟨r0, r1⟩ := blk2 HHr5.out
  go_wp2_with fail
  have sp0 := Since.cell p0
  have sp1 := Since.cell p1
  have sp2 := Since.cell p2
  have sp3 := Since.cell p3
  have sp4 := Since.cell p4
  have sp5 := Since.cell p5
  have sq0 := Since.cell q0
  have sq1 := Since.cell q1
  have sq2 := Since.cell q2
  have sq3 := Since.cell q3
  have sq4 := Since.cell q4
  have sq5 := Since.cell q5
  have sr0 := Since.cell r0
  have sr1 := Since.cell r1
  have KA : Hid (∀ q : Since w5, RepC q.wld (· < w.heap.size) c1 [.int .i64 k1, .string ns1, .string nl1, .string s1, .slice A1 n1 c01, .slice A1' n1' c01']) := Lib.hid fun q => HR1.out.below ((HB5.out.seq q.below).mono (Nat.le_refl _))
  refine wp_region_since (by kernel_rfl) (by kernel_rfl) ?_
  repeat (quiet_step (first
    | (go_at_call 15; exact since_of (check_val c1 _ _ _ (KA.out _) HE1.out))
    | (go_at_call 16; exact since_of (refcheck_val c1 _ _ _ (KA.out _) HE2.out))
    | (go_at_call 17; exact since_of (less_val a b ns1 nl1 _ HLT.out))
    | (go_at_call 18; exact since_of (lessR_val a b ns1 nl1 _ HLT.out))))
  refine wpQuiet_nil ?_
  intro w6 hq
  have hb6 := since_below hq
  clear hq KA sp0 sp1 sp2 sp3 sp4 sp5 sq0 sq1 sq2 sq3 sq4 sq5 sr0 sr1
  clear p0 p1 p2 p3 p4 p5 q0 q1 q2 q3 q4 q5 r0 r1
  have HHp6 := Lib.hid (hp_below HHp5.out hb6)
  have HHq6 := Lib.hid (hp_below HHq5.out hb6)
  have HHr6 := Lib.hid (hp_below HHr5.out hb6)
  have HB6 := Lib.hid (HB5.out.seq hb6)
  have hs6 := hb6.size
  have HT6 := Lib.hid (hTw.below HB6.out)
  obtain ⟨p0, p1, p2, p3, p4, p5⟩ := blk6 HHp6.out
  obtain ⟨q0, q1, q2, q3, q4, q5⟩ := blk6 HHq6.out
  go_wp2_with fail
  have Q7 := Normal_any c1 _ w6 _ (HR1.out.below (HB6.out.mono (Nat.le_refl _))) HT6.out
  rw [HN.out] at Q7
  refine Q7.mono ?_
  rintro e w7 ⟨csNx, rfl, hrNx, hb7⟩
  obtain ⟨kNx, nsNx, nlNx, sNx, ANx, nNx, c0Nx, ANx', nNx', c0Nx', rfl⟩ := hrNx.cells
  clear p0 p1 p2 p3 p4 p5 q0 q1 q2 q3 q4 q5
  clear Q7
  have HHp7 := Lib.hid (hp_below HHp6.out hb7)
  have HHq7 := Lib.hid (hp_below HHq6.out hb7)
  have HB7 := Lib.hid (HB6.out.seq hb7)
  have hs7 := hb7.size
  have HT7 := Lib.hid (hTw.below HB7.out)
  have HXx7 := Lib.hid hrNx
  clear hrNx
  have hloNx : w6.heap.size ≤ w6.heap.size := Nat.le_refl _
  obtain ⟨w8, hw8, S8, hsz8, hb8⟩ := alloc_facts w7 (.cells #[.int .i64 kNx, .string nsNx, .string nlNx, .string sNx, .slice ANx nNx c0Nx, .slice ANx' nNx' c0Nx'] 28)
  have HHx8 := Lib.hid S8
  clear S8
  have HHp8 := Lib.hid (hp_below HHp7.out hb8)
  have HHq8 := Lib.hid (hp_below HHq7.out hb8)
  have HB8 := Lib.hid (HB7.out.seq hb8)
  have hs8 := hb8.size
  have HT8 := Lib.hid (hTw.below HB8.out)
  have hgx : w.heap.size ≤ w7.heap.size := by have := HB7.out.size; omega
  have hglx : w7.heap.size < w8.heap.size := hsz8
  have HXx8 := Lib.hid (HXx7.out.keepF hb8)
  obtain ⟨p0, p1, p2, p3, p4, p5⟩ := blk6 HHp8.out
  obtain ⟨q0, q1, q2, q3, q4, q5⟩ := blk6 HHq8.out
  obtain ⟨x0, x1, x2, x3, x4, x5⟩ := blk6 HHx8.out
  go_wp2_with fail
  have Q9 := refNormal_any c1 _ w8 _ (HR1.out.below (HB8.out.mono (Nat.le_refl _))) (fun _ => HN11.out)
  rw [HN.out] at Q9
  refine Q9.mono ?_
  rintro e w9 ⟨csNy, rfl, hrNy, hb9⟩
  obtain ⟨kNy, nsNy, nlNy, sNy, ANy, nNy, c0Ny, ANy', nNy', c0Ny', rfl⟩ := hrNy.cells
  clear p0 p1 p2 p3 p4 p5 q0 q1 q2 q3 q4 q5 x0 x1 x2 x3 x4 x5
  clear Q9
  have HHp9 := Lib.hid (hp_below HHp8.out hb9)
  have HHq9 := Lib.hid (hp_below HHq8.out hb9)
  have HHx9 := Lib.hid (hp_below HHx8.out hb9)
  have HB9 := Lib.hid (HB8.out.seq hb9)
  have hs9 := hb9.size
  have HT9 := Lib.hid (hTw.below HB9.out)
  have HXy9 := Lib.hid hrNy
  clear hrNy
  have hloNy : w8.heap.size ≤ w8.heap.size := Nat.le_refl _
  have HXx9 := Lib.hid (HXx8.out.keepF hb9)
  obtain ⟨w10, hw10, S10, hsz10, hb10⟩ := alloc_facts w9 (.cells #[.int .i64 kNy, .string nsNy, .string nlNy, .string sNy, .slice ANy nNy c0Ny, .slice ANy' nNy' c0Ny'] 28)
  have HHy10 := Lib.hid S10
  clear S10
  have HHp10 := Lib.hid (hp_below HHp9.out hb10)
  have HHq10 := Lib.hid (hp_below HHq9.out hb10)
  have HHx10 := Lib.hid (hp_below HHx9.out hb10)
  have HB10 := Lib.hid (HB9.out.seq hb10)
  have hs10 := hb10.size
  have HT10 := Lib.hid (hTw.below HB10.out)
  have hgy : w.heap.size ≤ w9.heap.size := by have := HB9.out.size; omega
  have hgly : w9.heap.size < w10.heap.size := hsz10
  have HXy10 := Lib.hid (HXy9.out.keepF hb10)
  have HXx10 := Lib.hid (HXx9.out.keepF hb10)
  obtain ⟨p0, p1, p2, p3, p4, p5⟩ := blk6 HHp10.out
  obtain ⟨q0, q1, q2, q3, q4, q5⟩ := blk6 HHq10.out
  obtain ⟨x0, x1, x2, x3, x4, x5⟩ := blk6 HHx10.out
  obtain ⟨y0, y1, y2, y3, y4, y5⟩ := blk6 HHy10.out
  go_wp2_with fail
  refine (same21_eq RN.1 _ _ _ w10 _ _ HXx10.out HXy10.out HDN.out).mono ?_
  rintro e w11 ⟨rfl, hb11⟩
  clear p0 p1 p2 p3 p4 p5 q0 q1 q2 q3 q4 q5 x0 x1 x2 x3 x4 x5 y0 y1 y2 y3 y4 y5
  have HHp11 := Lib.hid (hp_below HHp10.out hb11)
  have HHq11 := Lib.hid (hp_below HHq10.out hb11)
  have HHx11 := Lib.hid (hp_below HHx10.out hb11)
  have HHy11 := Lib.hid (hp_below HHy10.out hb11)
  have HB11 := Lib.hid (HB10.out.seq hb11)
  have hs11 := hb11.size
  have HT11 := Lib.hid (hTw.below HB11.out)
  obtain ⟨p0, p1, p2, p3, p4, p5⟩ := blk6 HHp11.out
  obtain ⟨q0, q1, q2, q3, q4, q5⟩ := blk6 HHq11.out
  obtain ⟨x0, x1, x2, x3, x4, x5⟩ := blk6 HHx11.out
  obtain ⟨y0, y1, y2, y3, y4, y5⟩ := blk6 HHy11.out
  go_wp2_with fail
  have Q12 := Join_any c1 c2 _ _ w11 _ _ (HR1.out.below (HB11.out.mono (Nat.le_refl _))) (HR2.out.below (HB11.out.mono (Nat.le_refl _))) HT11.out
  rw [HJ.out] at Q12
  refine Q12.mono ?_
  rintro e w12 ⟨csJx, rfl, hrJx, hb12⟩
  obtain ⟨kJx, nsJx, nlJx, sJx, AJx, nJx, c0Jx, AJx', nJx', c0Jx', rfl⟩ := hrJx.cells
  clear p0 p1 p2 p3 p4 p5 q0 q1 q2 q3 q4 q5 x0 x1 x2 x3 x4 x5 y0 y1 y2 y3 y4 y5
  clear Q12
  have HHp12 := Lib.hid (hp_below HHp11.out hb12)
  have HHq12 := Lib.hid (hp_below HHq11.out hb12)
  have HHx12 := Lib.hid (hp_below HHx11.out hb12)
  have HHy12 := Lib.hid (hp_below HHy11.out hb12)
  have HB12 := Lib.hid (HB11.out.seq hb12)
  have hs12 := hb12.size
  have HT12 := Lib.hid (hTw.below HB12.out)
  have HXx12 := Lib.hid hrJx
  clear hrJx
  have hloJx : w11.heap.size ≤ w11.heap.size := Nat.le_refl _
  obtain ⟨u0, u1, u2, u3, u4, u5⟩ := blk6 HHx12.out
  obtain ⟨f0, f1, f2, f3, f4, f5⟩ := frz6 HHx12.out
  obtain ⟨w13, hw13, S13, Hf, Kf, Zf⟩ := set6_facts (.int .i64 kJx) (.string nsJx) (.string nlJx) (.string sJx) (.slice AJx nJx c0Jx) (.slice AJx' nJx' c0Jx') HHx12.out
  have HB13 : Hid (Below w.heap.size w w13) := Lib.hid (Hf HB12.out hgx)
  have hs13 : w12.heap.size ≤ w13.heap.size := Nat.le_of_eq Zf.symm
  have HHp13 := Lib.hid ((Kf (w.heap.size) (by omega)).trans HHp12.out)
  have HHq13 := Lib.hid ((Kf (w.heap.size + 1) (by omega)).trans HHq12.out)
  have HHx13 := Lib.hid S13
  have HHy13 := Lib.hid ((Kf (w9.heap.size) (by omega)).trans HHy12.out)
  have HT13 := Lib.hid (hTw.below HB13.out)
  have HXx13 := Lib.hid (RepC.keep (F := fun b => w11.heap.size ≤ b) (F' := fun b => w11.heap.size ≤ b) (fun b hb _ => ⟨hb, Kf b (by omega)⟩) _ _  HXx12.out)
  clear Hf Kf Zf S13
  obtain ⟨p0, p1, p2, p3, p4, p5⟩ := blk6 HHp13.out
  obtain ⟨q0, q1, q2, q3, q4, q5⟩ := blk6 HHq13.out
  obtain ⟨x0, x1, x2, x3, x4, x5⟩ := blk6 HHx13.out
  obtain ⟨y0, y1, y2, y3, y4, y5⟩ := blk6 HHy13.out
  go_wp2_with fail
  have Q14 := refJoin_any c1 c2 _ _ w13 _ _ (HR1.out.below (HB13.out.mono (Nat.le_refl _))) (HR2.out.below (HB13.out.mono (Nat.le_refl _))) (fun _ _ => HN12.out)
  rw [HJ.out] at Q14
  refine Q14.mono ?_
  rintro e w14 ⟨csJy, rfl, hrJy, hb14⟩
  obtain ⟨kJy, nsJy, nlJy, sJy, AJy, nJy, c0Jy, AJy', nJy', c0Jy', rfl⟩ := hrJy.cells
  clear p0 p1 p2 p3 p4 p5 q0 q1 q2 q3 q4 q5 x0 x1 x2 x3 x4 x5 y0 y1 y2 y3 y4 y5
  clear Q14
  have HHp14 := Lib.hid (hp_below HHp13.out hb14)
  have HHq14 := Lib.hid (hp_below HHq13.out hb14)
  have HHx14 := Lib.hid (hp_below HHx13.out hb14)
  have HHy14 := Lib.hid (hp_below HHy13.out hb14)
  have HB14 := Lib.hid (HB13.out.seq hb14)
  have hs14 := hb14.size
  have HT14 := Lib.hid (hTw.below HB14.out)
  have HXy14 := Lib.hid hrJy
  clear hrJy
  have hloJy : w13.heap.size ≤ w13.heap.size := Nat.le_refl _
  have HXx14 := Lib.hid (HXx13.out.keepF hb14)
  obtain ⟨u0, u1, u2, u3, u4, u5⟩ := blk6 HHy14.out
  obtain ⟨f0, f1, f2, f3, f4, f5⟩ := frz6 HHy14.out
  obtain ⟨w15, hw15, S15, Hf, Kf, Zf⟩ := set6_facts (.int .i64 kJy) (.string nsJy) (.string nlJy) (.string sJy) (.slice AJy nJy c0Jy) (.slice AJy' nJy' c0Jy') HHy14.out
  have HB15 : Hid (Below w.heap.size w w15) := Lib.hid (Hf HB14.out hgy)
  have hs15 : w14.heap.size ≤ w15.heap.size := Nat.le_of_eq Zf.symm
  have HHp15 := Lib.hid ((Kf (w.heap.size) (by omega)).trans HHp14.out)
  have HHq15 := Lib.hid ((Kf (w.heap.size + 1) (by omega)).trans HHq14.out)
  have HHx15 := Lib.hid ((Kf (w7.heap.size) (by omega)).trans HHx14.out)
  have HHy15 := Lib.hid S15
  have HT15 := Lib.hid (hTw.below HB15.out)
  have HXy15 := Lib.hid (RepC.keep (F := fun b => w13.heap.size ≤ b) (F' := fun b => w13.heap.size ≤ b) (fun b hb _ => ⟨hb, Kf b (by omega)⟩) _ _  HXy14.out)
  have HXx15 := Lib.hid (RepC.keep (F := fun b => w11.heap.size ≤ b) (F' := fun b => w11.heap.size ≤ b) (fun b hb _ => ⟨hb, Kf b (by omega)⟩) _ _  HXx14.out)
  clear Hf Kf Zf S15
  obtain ⟨p0, p1, p2, p3, p4, p5⟩ := blk6 HHp15.out
  obtain ⟨q0, q1, q2, q3, q4, q5⟩ := blk6 HHq15.out
  obtain ⟨x0, x1, x2, x3, x4, x5⟩ := blk6 HHx15.out
  obtain ⟨y0, y1, y2, y3, y4, y5⟩ := blk6 HHy15.out
  go_wp2_with fail
  refine (same21_eq RJ.1 _ _ _ w15 _ _ HXx15.out HXy15.out HDJ.out).mono ?_
  rintro e w16 ⟨rfl, hb16⟩
  clear u0 u1 u2 u3 u4 u5 f0 f1 f2 f3 f4 f5
  clear p0 p1 p2 p3 p4 p5 q0 q1 q2 q3 q4 q5 x0 x1 x2 x3 x4 x5 y0 y1 y2 y3 y4 y5
  have HHp16 := Lib.hid (hp_below HHp15.out hb16)
  have HHq16 := Lib.hid (hp_below HHq15.out hb16)
  have HHx16 := Lib.hid (hp_below HHx15.out hb16)
  have HHy16 := Lib.hid (hp_below HHy15.out hb16)
  have HB16 := Lib.hid (HB15.out.seq hb16)
  have hs16 := hb16.size
  have HT16 := Lib.hid (hTw.below HB16.out)
  obtain ⟨p0, p1, p2, p3, p4, p5⟩ := blk6 HHp16.out
  obtain ⟨q0, q1, q2, q3, q4, q5⟩ := blk6 HHq16.out
  obtain ⟨x0, x1, x2, x3, x4, x5⟩ := blk6 HHx16.out
  obtain ⟨y0, y1, y2, y3, y4, y5⟩ := blk6 HHy16.out
  go_wp2_with fail
  have Q17 := Meet_any c1 c2 _ _ w16 _ _ (HR1.out.below (HB16.out.mono (Nat.le_refl _))) (HR2.out.below (HB16.out.mono (Nat.le_refl _))) HT16.out
  rw [HM.out] at Q17
  refine Q17.mono ?_
  rintro e w17 ⟨csMx, rfl, hrMx, hb17⟩
  obtain ⟨kMx, nsMx, nlMx, sMx, AMx, nMx, c0Mx, AMx', nMx', c0Mx', rfl⟩ := hrMx.cells
  clear p0 p1 p2 p3 p4 p5 q0 q1 q2 q3 q4 q5 x0 x1 x2 x3 x4 x5 y0 y1 y2 y3 y4 y5
  clear Q17
  have HHp17 := Lib.hid (hp_below HHp16.out hb17)
  have HHq17 := Lib.hid (hp_below HHq16.out hb17)
  have HHx17 := Lib.hid (hp_below HHx16.out hb17)
  have HHy17 := Lib.hid (hp_below HHy16.out hb17)
  have HB17 := Lib.hid (HB16.out.seq hb17)
  have hs17 := hb17.size
  have HT17 := Lib.hid (hTw.below HB17.out)
  have HXx17 := Lib.hid hrMx
  clear hrMx
  have hloMx : w16.heap.size ≤ w16.heap.size := Nat.le_refl _
  obtain ⟨u0, u1, u2, u3, u4, u5⟩ := blk6 HHx17.out
  obtain ⟨f0, f1, f2, f3, f4, f5⟩ := frz6 HHx17.out
  obtain ⟨w18, hw18, S18, Hf, Kf, Zf⟩ := set6_facts (.int .i64 kMx) (.string nsMx) (.string nlMx) (.string sMx) (.slice AMx nMx c0Mx) (.slice AMx' nMx' c0Mx') HHx17.out
  have HB18 : Hid (Below w.heap.size w w18) := Lib.hid (Hf HB17.out hgx)
  have hs18 : w17.heap.size ≤ w18.heap.size := Nat.le_of_eq Zf.symm
  have HHp18 := Lib.hid ((Kf (w.heap.size) (by omega)).trans HHp17.out)
  have HHq18 := Lib.hid ((Kf (w.heap.size + 1) (by omega)).trans HHq17.out)
  have HHx18 := Lib.hid S18
  have HHy18 := Lib.hid ((Kf (w9.heap.size) (by omega)).trans HHy17.out)
  have HT18 := Lib.hid (hTw.below HB18.out)
  have HXx18 := Lib.hid (RepC.keep (F := fun b => w16.heap.size ≤ b) (F' := fun b => w16.heap.size ≤ b) (fun b hb _ => ⟨hb, Kf b (by omega)⟩) _ _  HXx17.out)
  clear Hf Kf Zf S18
  obtain ⟨p0, p1, p2, p3, p4, p5⟩ := blk6 HHp18.out
  obtain ⟨q0, q1, q2, q3, q4, q5⟩ := blk6 HHq18.out
  obtain ⟨x0, x1, x2, x3, x4, x5⟩ := blk6 HHx18.out
  obtain ⟨y0, y1, y2, y3, y4, y5⟩ := blk6 HHy18.out
  go_wp2_with fail
  have Q19 := refMeet_any c1 c2 _ _ w18 _ _ (HR1.out.below (HB18.out.mono (Nat.le_refl _))) (HR2.out.below (HB18.out.mono (Nat.le_refl _))) (fun _ _ => HN12.out)
  rw [HM.out] at Q19
  refine Q19.mono ?_
  rintro e w19 ⟨csMy, rfl, hrMy, hb19⟩
  obtain ⟨kMy, nsMy, nlMy, sMy, AMy, nMy, c0My, AMy', nMy', c0My', rfl⟩ := hrMy.cells
  clear p0 p1 p2 p3 p4 p5 q0 q1 q2 q3 q4 q5 x0 x1 x2 x3 x4 x5 y0 y1 y2 y3 y4 y5
  clear Q19
  have HHp19 := Lib.hid (hp_below HHp18.out hb19)
  have HHq19 := Lib.hid (hp_below HHq18.out hb19)
  have HHx19 := Lib.hid (hp_below HHx18.out hb19)
  have HHy19 := Lib.hid (hp_below HHy18.out hb19)
  have HB19 := Lib.hid (HB18.out.seq hb19)
  have hs19 := hb19.size
  have HT19 := Lib.hid (hTw.below HB19.out)
  have HXy19 := Lib.hid hrMy
  clear hrMy
  have hloMy : w18.heap.size ≤ w18.heap.size := Nat.le_refl _
  have HXx19 := Lib.hid (HXx18.out.keepF hb19)
  obtain ⟨u0, u1, u2, u3, u4, u5⟩ := blk6 HHy19.out
  obtain ⟨f0, f1, f2, f3, f4, f5⟩ := frz6 HHy19.out
  obtain ⟨w20, hw20, S20, Hf, Kf, Zf⟩ := set6_facts (.int .i64 kMy) (.string nsMy) (.string nlMy) (.string sMy) (.slice AMy nMy c0My) (.slice AMy' nMy' c0My') HHy19.out
  have HB20 : Hid (Below w.heap.size w w20) := Lib.hid (Hf HB19.out hgy)
  have hs20 : w19.heap.size ≤ w20.heap.size := Nat.le_of_eq Zf.symm
  have HHp20 := Lib.hid ((Kf (w.heap.size) (by omega)).trans HHp19.out)
  have HHq20 := Lib.hid ((Kf (w.heap.size + 1) (by omega)).trans HHq19.out)
  have HHx20 := Lib.hid ((Kf (w7.heap.size) (by omega)).trans HHx19.out)
  have HHy20 := Lib.hid S20
  have HT20 := Lib.hid (hTw.below HB20.out)
  have HXy20 := Lib.hid (RepC.keep (F := fun b => w18.heap.size ≤ b) (F' := fun b => w18.heap.size ≤ b) (fun b hb _ => ⟨hb, Kf b (by omega)⟩) _ _  HXy19.out)
  have HXx20 := Lib.hid (RepC.keep (F := fun b => w16.heap.size ≤ b) (F' := fun b => w16.heap.size ≤ b) (fun b hb _ => ⟨hb, Kf b (by omega)⟩) _ _  HXx19.out)
  clear Hf Kf Zf S20
  obtain ⟨p0, p1, p2, p3, p4, p5⟩ := blk6 HHp20.out
  obtain ⟨q0, q1, q2, q3, q4, q5⟩ := blk6 HHq20.out
  obtain ⟨x0, x1, x2, x3, x4, x5⟩ := blk6 HHx20.out
  obtain ⟨y0, y1, y2, y3, y4, y5⟩ := blk6 HHy20.out
  go_wp2_with fail
  refine (same21_eq RM.1 _ _ _ w20 _ _ HXx20.out HXy20.out HDM.out).mono ?_
  rintro e w21 ⟨rfl, hb21⟩
  clear u0 u1 u2 u3 u4 u5 f0 f1 f2 f3 f4 f5
  clear p0 p1 p2 p3 p4 p5 q0 q1 q2 q3 q4 q5 x0 x1 x2 x3 x4 x5 y0 y1 y2 y3 y4 y5
  have HHp21 := Lib.hid (hp_below HHp20.out hb21)
  have HHq21 := Lib.hid (hp_below HHq20.out hb21)
  have HHx21 := Lib.hid (hp_below HHx20.out hb21)
  have HHy21 := Lib.hid (hp_below HHy20.out hb21)
  have HB21 := Lib.hid (HB20.out.seq hb21)
  have hs21 := hb21.size
  have HT21 := Lib.hid (hTw.below HB21.out)
  obtain ⟨p0, p1, p2, p3, p4, p5⟩ := blk6 HHp21.out
  obtain ⟨q0, q1, q2, q3, q4, q5⟩ := blk6 HHq21.out
  obtain ⟨x0, x1, x2, x3, x4, x5⟩ := blk6 HHx21.out
  obtain ⟨y0, y1, y2, y3, y4, y5⟩ := blk6 HHy21.out
  go_wp2_with fail
  have Q22 := Minus_any c1 c2 _ _ w21 _ _ (HR1.out.below (HB21.out.mono (Nat.le_refl _))) (HR2.out.below (HB21.out.mono (Nat.le_refl _))) HT21.out
  rw [HD.out] at Q22
  refine Q22.mono ?_
  rintro e w22 ⟨csDx, rfl, hrDx, hb22⟩
  obtain ⟨kDx, nsDx, nlDx, sDx, ADx, nDx, c0Dx, ADx', nDx', c0Dx', rfl⟩ := hrDx.cells
  clear p0 p1 p2 p3 p4 p5 q0 q1 q2 q3 q4 q5 x0 x1 x2 x3 x4 x5 y0 y1 y2 y3 y4 y5
  clear Q22
  have HHp22 := Lib.hid (hp_below HHp21.out hb22)
  have HHq22 := Lib.hid (hp_below HHq21.out hb22)
  have HHx22 := Lib.hid (hp_below HHx21.out hb22)
  have HHy22 := Lib.hid (hp_below HHy21.out hb22)
  have HB22 := Lib.hid (HB21.out.seq hb22)
  have hs22 := hb22.size
  have HT22 := Lib.hid (hTw.below HB22.out)
  have HXx22 := Lib.hid hrDx
  clear hrDx
  have hloDx : w21.heap.size ≤ w21.heap.size := Nat.le_refl _
  obtain ⟨u0, u1, u2, u3, u4, u5⟩ := blk6 HHx22.out
  obtain ⟨f0, f1, f2, f3, f4, f5⟩ := frz6 HHx22.out
  obtain ⟨w23, hw23, S23, Hf, Kf, Zf⟩ := set6_facts (.int .i64 kDx) (.string nsDx) (.string nlDx) (.string sDx) (.slice ADx nDx c0Dx) (.slice ADx' nDx' c0Dx') HHx22.out
  have HB23 : Hid (Below w.heap.size w w23) := Lib.hid (Hf HB22.out hgx)
  have hs23 : w22.heap.size ≤ w23.heap.size := Nat.le_of_eq Zf.symm
  have HHp23 := Lib.hid ((Kf (w.heap.size) (by omega)).trans HHp22.out)
  have HHq23 := Lib.hid ((Kf (w.heap.size + 1) (by omega)).trans HHq22.out)
  have HHx23 := Lib.hid S23
  have HHy23 := Lib.hid ((Kf (w9.heap.size) (by omega)).trans HHy22.out)
  have HT23 := Lib.hid (hTw.below HB23.out)
  have HXx23 := Lib.hid (RepC.keep (F := fun b => w21.heap.size ≤ b) (F' := fun b => w21.heap.size ≤ b) (fun b hb _ => ⟨hb, Kf b (by omega)⟩) _ _  HXx22.out)
  clear Hf Kf Zf S23
  obtain ⟨p0, p1, p2, p3, p4, p5⟩ := blk6 HHp23.out
  obtain ⟨q0, q1, q2, q3, q4, q5⟩ := blk6 HHq23.out
  obtain ⟨x0, x1, x2, x3, x4, x5⟩ := blk6 HHx23.out
  obtain ⟨y0, y1, y2, y3, y4, y5⟩ := blk6 HHy23.out
  go_wp2_with fail
  have Q24 := refMinus_any c1 c2 _ _ w23 _ _ (HR1.out.below (HB23.out.mono (Nat.le_refl _))) (HR2.out.below (HB23.out.mono (Nat.le_refl _))) (fun _ _ => HN12.out)
  rw [HD.out] at Q24
  refine Q24.mono ?_
  rintro e w24 ⟨csDy, rfl, hrDy, hb24⟩
  obtain ⟨kDy, nsDy, nlDy, sDy, ADy, nDy, c0Dy, ADy', nDy', c0Dy', rfl⟩ := hrDy.cells
  clear p0 p1 p2 p3 p4 p5 q0 q1 q2 q3 q4 q5 x0 x1 x2 x3 x4 x5 y0 y1 y2 y3 y4 y5
  clear Q24
  have HHp24 := Lib.hid (hp_below HHp23.out hb24)
  have HHq24 := Lib.hid (hp_below HHq23.out hb24)
  have HHx24 := Lib.hid (hp_below HHx23.out hb24)
  have HHy24 := Lib.hid (hp_below HHy23.out hb24)
  have HB24 := Lib.hid (HB23.out.seq hb24)
  have hs24 := hb24.size
  have HT24 := Lib.hid (hTw.below HB24.out)
  have HXy24 := Lib.hid hrDy
  clear hrDy
  have hloDy : w23.heap.size ≤ w23.heap.size := Nat.le_refl _
  have HXx24 := Lib.hid (HXx23.out.keepF hb24)
  obtain ⟨u0, u1, u2, u3, u4, u5⟩ := blk6 HHy24.out
  obtain ⟨f0, f1, f2, f3, f4, f5⟩ := frz6 HHy24.out
  obtain ⟨w25, hw25, S25, Hf, Kf, Zf⟩ := set6_facts (.int .i64 kDy) (.string nsDy) (.string nlDy) (.string sDy) (.slice ADy nDy c0Dy) (.slice ADy' nDy' c0Dy') HHy24.out
  have HB25 : Hid (Below w.heap.size w w25) := Lib.hid (Hf HB24.out hgy)
  have hs25 : w24.heap.size ≤ w25.heap.size := Nat.le_of_eq Zf.symm
  have HHp25 := Lib.hid ((Kf (w.heap.size) (by omega)).trans HHp24.out)
  have HHq25 := Lib.hid ((Kf (w.heap.size + 1) (by omega)).trans HHq24.out)
  have HHx25 := Lib.hid ((Kf (w7.heap.size) (by omega)).trans HHx24.out)
  have HHy25 := Lib.hid S25
  have HT25 := Lib.hid (hTw.below HB25.out)
  have HXy25 := Lib.hid (RepC.keep (F := fun b => w23.heap.size ≤ b) (F' := fun b => w23.heap.size ≤ b) (fun b hb _ => ⟨hb, Kf b (by omega)⟩) _ _  HXy24.out)
  have HXx25 := Lib.hid (RepC.keep (F := fun b => w21.heap.size ≤ b) (F' := fun b => w21.heap.size ≤ b) (fun b hb _ => ⟨hb, Kf b (by omega)⟩) _ _  HXx24.out)
  clear Hf Kf Zf S25
  obtain ⟨p0, p1, p2, p3, p4, p5⟩ := blk6 HHp25.out
  obtain ⟨q0, q1, q2, q3, q4, q5⟩ := blk6 HHq25.out
  obtain ⟨x0, x1, x2, x3, x4, x5⟩ := blk6 HHx25.out
  obtain ⟨y0, y1, y2, y3, y4, y5⟩ := blk6 HHy25.out
  go_wp2_with fail
  refine (same21_eq RD.1 _ _ _ w25 _ _ HXx25.out HXy25.out HDD.out).mono ?_
  rintro e w26 ⟨rfl, hb26⟩
  clear u0 u1 u2 u3 u4 u5 f0 f1 f2 f3 f4 f5
  clear p0 p1 p2 p3 p4 p5 q0 q1 q2 q3 q4 q5 x0 x1 x2 x3 x4 x5 y0 y1 y2 y3 y4 y5
  have HHp26 := Lib.hid (hp_below HHp25.out hb26)
  have HHq26 := Lib.hid (hp_below HHq25.out hb26)
  have HHx26 := Lib.hid (hp_below HHx25.out hb26)
  have HHy26 := Lib.hid (hp_below HHy25.out hb26)
  have HB26 := Lib.hid (HB25.out.seq hb26)
  have hs26 := hb26.size
  have HT26 := Lib.hid (hTw.below HB26.out)
  obtain ⟨p0, p1, p2, p3, p4, p5⟩ := blk6 HHp26.out
  obtain ⟨q0, q1, q2, q3, q4, q5⟩ := blk6 HHq26.out
  obtain ⟨x0, x1, x2, x3, x4, x5⟩ := blk6 HHx26.out
  obtain ⟨y0, y1, y2, y3, y4, y5⟩ := blk6 HHy26.out
  go_wp2_with fail
  refine (shown_any w26 HT26.out).mono ?_
  rintro e w27 ⟨rfl, hb27⟩
  go_wp2_with fail
  go_ret
  exact ⟨rfl, HB26.out.seq hb27⟩
end Go.Proofs.YtfildbkkmnfekaaGreatDoor
