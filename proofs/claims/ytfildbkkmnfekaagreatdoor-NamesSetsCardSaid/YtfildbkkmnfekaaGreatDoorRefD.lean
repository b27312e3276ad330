/- gabaritref01's Normal, Join, Meet, Minus. -/
import Derived.Test.YtfildbkkmnfekaaGreatDoorG39
import Derived.WalkKit
import Derived.WalkSpells
import Derived.WalkLawsBesides
import Derived.BigGuardPart
import Derived.Lib.Hide
import Derived.Deep.QuietTactic
import Derived.BigQuiet
import Derived.StillTailTactics
import Derived.Deep.DeepCutAuto
import Derived.Deep.CutBlock
import Derived.Laws.EntriesVeiled
namespace Go.Proofs.YtfildbkkmnfekaaGreatDoor
open Go.RowKit

set_option maxHeartbeats 1000000 in
set_option maxRecDepth 100000 in
theorem refNormal_any (c1 : Cls) (cs1 : List Value) (w : World) (F1 : Nat → Prop) (hr1 : RepC w F1 c1 cs1) (hn : chkR c1 = 0 → numL [c1, c1] < 1000) :
    Calls Tryz.prog 20 #[.agg cs1.toArray] w fun e w' => ∃ cs, e = .returned (.tuple #[.agg cs.toArray, .int .i64 (resF (chkR c1) (normF chkR (fHow 0 c1 c1) (addL [c1, c1] ([], [])))).2]) ∧
      RepC w' (w.heap.size ≤ ·) (resF (chkR c1) (normF chkR (fHow 0 c1 c1) (addL [c1, c1] ([], [])))).1 cs ∧ Below w.heap.size w w' := by
  obtain ⟨e0, he0⟩ : ∃ e1, chkR c1 = e1 := ⟨_, rfl⟩
  obtain ⟨R, hR⟩ : ∃ R, normF chkR (fHow 0 c1 c1) (addL [c1, c1] ([], [])) = R := ⟨_, rfl⟩
  rw [he0] at hn
  rw [he0, hR]
  have HE0 := Lib.hid he0; have HRR := Lib.hid hR; have HN := Lib.hid hn
  have hr1' := hr1.here
  obtain ⟨k1, ns1, nl1, s1, A1, n1, c01, A1', n1', c01', rfl⟩ := hr1.cells
  obtain ⟨w1, hw1, S1, S3, hsz, hb1⟩ := alloc2_facts w (.cells #[.int .i64 k1, .string ns1, .string nl1, .string s1, .slice A1 n1 c01, .slice A1' n1' c01'] 28) (.cells #[.int .i64 0, .string ⟨#[]⟩, .string ⟨#[]⟩, .string ⟨#[]⟩, .slice none 0 0, .slice none 0 0] 28)
  have HR1 := Lib.hid (hr1'.below hb1); have HS3 := Lib.hid S3
  obtain ⟨p0, p1, p2, p3, p4, p5⟩ := blk6 S1
  have hsz0 : w.heap.size < w1.heap.size := by omega
  clear S1 S3 hr1 hr1' he0 hR hn
  by_cases he : e0 = 0
  · subst he
    have hcc : ((0 : Int) != 0) = false := rfl
    have HX : Hid (resF 0 R = R) := Lib.hid (if_pos rfl)
    have HN0 := Lib.hid (HN.out rfl)
    clear HN
    go_enter Tryz.func20, Tryz.ntmps20
    go_wp2_with fail
    refine (refcheck_val c1 _ w1 _ HR1.out HE0.out).mono ?_
    rintro e w2 ⟨rfl, hb2⟩
    obtain ⟨hc2, hf2⟩ := bcell hb2
    go_wp2_with fail
    refine (refnormal_any 0 c1 c1 _ _ w2 _ _ (HR1.out.below (hb2.mono (by omega))) (HR1.out.below (hb2.mono (by omega))) HN0.out).mono ?_
    rw [HRR.out]
    rintro e w3 ⟨cs', rfl, hrc, hb3⟩
    obtain ⟨k3, ns3, nl3, s3, A3, n3, c03, A3', n3', c03', rfl⟩ := hrc.cells
    have HRC := Lib.hid hrc
    clear hrc
    have hb13 := hb2.seq hb3
    have SR := hp_below HS3.out hb13
    have hsz2 := hb2.size
    obtain ⟨f0, f1, f2, f3, f4, f5⟩ := frz6 SR
    obtain ⟨t0, t1, t2, t3, t4, t5⟩ := blk6 SR
    obtain ⟨wf, hwf, Sf, Hf, Kf, Zf⟩ := set6_facts (.int .i64 k3) (.string ns3) (.string nl3) (.string s3) (.slice A3 n3 c03) (.slice A3' n3' c03') SR
    have hbf : Below w.heap.size w wf := Hf (hb1.seq hb13) (by omega)
    have HRF : Hid (RepC wf (fun b => w.heap.size ≤ b) R.1 _) := Lib.hid (RepC.keep (fun b hb hl => ⟨by omega, Kf b (by omega)⟩) _ _ HRC.out)
    obtain ⟨g0, g1, g2, g3, g4, g5⟩ := blk6 Sf
    clear Sf SR Hf Kf Zf
    go_wp2_with fail
    (try simp only [Exit.inBlock, Exit.then])
    refine bodyPost_ret (v := .tuple #[.agg #[.int .i64 k3, .string ns3, .string nl3, .string s3, .slice A3 n3 c03, .slice A3' n3' c03'], .int .i64 R.2]) (by simp [results, Tryz.results20, go_sem, g0, g1, g2, g3, g4, g5]) rfl ?_
    refine ⟨[.int .i64 k3, .string ns3, .string nl3, .string s3, .slice A3 n3 c03, .slice A3' n3' c03'], ?_, ?_, hbf⟩
    · rw [HX.out]
    · rw [HX.out]; exact HRF.out
  · have hcc : (e0 != 0) = true := by simpa using he
    have HX : Hid (resF e0 R = (zeroC, e0)) := Lib.hid (if_neg he)
    clear he
    go_enter Tryz.func20, Tryz.ntmps20
    go_wp2_with fail
    refine (refcheck_val c1 _ w1 _ HR1.out HE0.out).mono ?_
    rintro e w2 ⟨rfl, hb2⟩
    have SR := hp_below HS3.out hb2
    obtain ⟨f0, f1, f2, f3, f4, f5⟩ := frz6 SR
    obtain ⟨t0, t1, t2, t3, t4, t5⟩ := blk6 SR
    obtain ⟨wf, hwf, Sf, Hf, Kf, Zf⟩ := set6_facts (.int .i64 0) (.string ⟨#[]⟩) (.string ⟨#[]⟩) (.string ⟨#[]⟩) (.slice none 0 0) (.slice none 0 0) SR
    have hbf : Below w.heap.size w wf := Hf (hb1.seq hb2) (by omega)
    obtain ⟨g0, g1, g2, g3, g4, g5⟩ := blk6 Sf
    clear Sf SR Hf Kf Zf
    go_wp2_with fail
    (try simp only [Exit.inBlock, Exit.then])
    refine bodyPost_ret (v := .tuple #[.agg #[.int .i64 0, .string ⟨#[]⟩, .string ⟨#[]⟩, .string ⟨#[]⟩, .slice none 0 0, .slice none 0 0], .int .i64 e0]) (by simp [results, Tryz.results20, go_sem, g0, g1, g2, g3, g4, g5]) rfl ?_
    refine ⟨[.int .i64 0, .string ⟨#[]⟩, .string ⟨#[]⟩, .string ⟨#[]⟩, .slice none 0 0, .slice none 0 0], ?_, ?_, hbf⟩
    · rw [HX.out]
    · rw [HX.out]; exact RepC.mk' (RowL.nil _ _ _) (RowL.nil _ _ _) (by omega) (by omega)
set_option maxHeartbeats 1000000 in
set_option maxRecDepth 100000 in
theorem refJoin_any (c1 c2 : Cls) (cs1 cs2 : List Value) (w : World) (F1 F2 : Nat → Prop) (hr1 : RepC w F1 c1 cs1) (hr2 : RepC w F2 c2 cs2) (hn : chkR c1 = 0 → chkR c2 = 0 → numL [c1, c2] < 1000) :
    Calls Tryz.prog 23 #[.agg cs1.toArray, .agg cs2.toArray] w fun e w' => ∃ cs, e = .returned (.tuple #[.agg cs.toArray, .int .i64 (resF (orE (chkR c1) (chkR c2)) (normF chkR (fHow 1 c1 c2) (addL [c1, c2] ([], [])))).2]) ∧
      RepC w' (w.heap.size ≤ ·) (resF (orE (chkR c1) (chkR c2)) (normF chkR (fHow 1 c1 c2) (addL [c1, c2] ([], [])))).1 cs ∧ Below w.heap.size w w' := by
  obtain ⟨R, hR⟩ : ∃ R, resF (orE (chkR c1) (chkR c2)) (normF chkR (fHow 1 c1 c2) (addL [c1, c2] ([], []))) = R := ⟨_, rfl⟩
  rw [hR]
  have HRR := Lib.hid hR; have HN := Lib.hid hn
  have hr1' := hr1.here
  have hr2' := hr2.here
  obtain ⟨k1, ns1, nl1, s1, A1, n1, c01, A1', n1', c01', rfl⟩ := hr1.cells
  obtain ⟨k2, ns2, nl2, s2, A2, n2, c02, A2', n2', c02', rfl⟩ := hr2.cells
  obtain ⟨w1, hw1, S1, S2, S3, hsz, hb1⟩ := alloc3_facts w (.cells #[.int .i64 k1, .string ns1, .string nl1, .string s1, .slice A1 n1 c01, .slice A1' n1' c01'] 28) (.cells #[.int .i64 k2, .string ns2, .string nl2, .string s2, .slice A2 n2 c02, .slice A2' n2' c02'] 28) (.cells #[.int .i64 0, .string ⟨#[]⟩, .string ⟨#[]⟩, .string ⟨#[]⟩, .slice none 0 0, .slice none 0 0] 28)
  have HR1 := Lib.hid (hr1'.below hb1); have HR2 := Lib.hid (hr2'.below hb1); have HS3 := Lib.hid S3
  obtain ⟨p0, p1, p2, p3, p4, p5⟩ := blk6 S1
  obtain ⟨q0, q1, q2, q3, q4, q5⟩ := blk6 S2
  clear S1 S2 S3 hr1 hr2 hr1' hr2' hR hn
  go_enter Tryz.func23, Tryz.ntmps23
  go_wp2_with fail
  refine (refcombined_any 1 c1 c2 _ _ w1 _ _ HR1.out HR2.out HN.out).mono ?_
  rw [HRR.out]
  rintro e w3 ⟨cs', rfl, hrc, hb3⟩
  obtain ⟨k3, ns3, nl3, s3, A3, n3, c03, A3', n3', c03', rfl⟩ := hrc.cells
  have HRC := Lib.hid hrc
  clear hrc
  have SR := hp_below HS3.out hb3
  obtain ⟨f0, f1, f2, f3, f4, f5⟩ := frz6 SR
  obtain ⟨t0, t1, t2, t3, t4, t5⟩ := blk6 SR
  obtain ⟨wf, hwf, Sf, Hf, Kf, Zf⟩ := set6_facts (.int .i64 k3) (.string ns3) (.string nl3) (.string s3) (.slice A3 n3 c03) (.slice A3' n3' c03') SR
  have hbf : Below w.heap.size w wf := Hf (hb1.seq hb3) (by omega)
  have HRF : Hid (RepC wf (fun b => w.heap.size ≤ b) R.1 _) := Lib.hid (RepC.keep (fun b hb hl => ⟨by omega, Kf b (by omega)⟩) _ _ HRC.out)
  obtain ⟨g0, g1, g2, g3, g4, g5⟩ := blk6 Sf
  clear Sf SR Hf Kf Zf
  go_wp2_with fail
  (try simp only [Exit.inBlock, Exit.then])
  refine bodyPost_ret (v := .tuple #[.agg #[.int .i64 k3, .string ns3, .string nl3, .string s3, .slice A3 n3 c03, .slice A3' n3' c03'], .int .i64 R.2]) (by simp [results, Tryz.results23, go_sem, g0, g1, g2, g3, g4, g5]) rfl ?_
  refine ⟨[.int .i64 k3, .string ns3, .string nl3, .string s3, .slice A3 n3 c03, .slice A3' n3' c03'], ?_, ?_, hbf⟩
  · rfl
  · exact HRF.out
set_option maxHeartbeats 1000000 in
set_option maxRecDepth 100000 in
theorem refMeet_any (c1 c2 : Cls) (cs1 cs2 : List Value) (w : World) (F1 F2 : Nat → Prop) (hr1 : RepC w F1 c1 cs1) (hr2 : RepC w F2 c2 cs2) (hn : chkR c1 = 0 → chkR c2 = 0 → numL [c1, c2] < 1000) :
    Calls Tryz.prog 25 #[.agg cs1.toArray, .agg cs2.toArray] w fun e w' => ∃ cs, e = .returned (.tuple #[.agg cs.toArray, .int .i64 (resF (orE (chkR c1) (chkR c2)) (normF chkR (fHow 2 c1 c2) (addL [c1, c2] ([], [])))).2]) ∧
      RepC w' (w.heap.size ≤ ·) (resF (orE (chkR c1) (chkR c2)) (normF chkR (fHow 2 c1 c2) (addL [c1, c2] ([], [])))).1 cs ∧ Below w.heap.size w w' := by
  obtain ⟨R, hR⟩ : ∃ R, resF (orE (chkR c1) (chkR c2)) (normF chkR (fHow 2 c1 c2) (addL [c1, c2] ([], []))) = R := ⟨_, rfl⟩
  rw [hR]
  have HRR := Lib.hid hR; have HN := Lib.hid hn
  have hr1' := hr1.here
  have hr2' := hr2.here
  obtain ⟨k1, ns1, nl1, s1, A1, n1, c01, A1', n1', c01', rfl⟩ := hr1.cells
  obtain ⟨k2, ns2, nl2, s2, A2, n2, c02, A2', n2', c02', rfl⟩ := hr2.cells
  obtain ⟨w1, hw1, S1, S2, S3, hsz, hb1⟩ := alloc3_facts w (.cells #[.int .i64 k1, .string ns1, .string nl1, .string s1, .slice A1 n1 c01, .slice A1' n1' c01'] 28) (.cells #[.int .i64 k2, .string ns2, .string nl2, .string s2, .slice A2 n2 c02, .slice A2' n2' c02'] 28) (.cells #[.int .i64 0, .string ⟨#[]⟩, .string ⟨#[]⟩, .string ⟨#[]⟩, .slice none 0 0, .slice none 0 0] 28)
  have HR1 := Lib.hid (hr1'.below hb1); have HR2 := Lib.hid (hr2'.below hb1); have HS3 := Lib.hid S3
  obtain ⟨p0, p1, p2, p3, p4, p5⟩ := blk6 S1
  obtain ⟨q0, q1, q2, q3, q4, q5⟩ := blk6 S2
  clear S1 S2 S3 hr1 hr2 hr1' hr2' hR hn
  go_enter Tryz.func25, Tryz.ntmps25
  go_wp2_with fail
  refine (refcombined_any 2 c1 c2 _ _ w1 _ _ HR1.out HR2.out HN.out).mono ?_
  rw [HRR.out]
  rintro e w3 ⟨cs', rfl, hrc, hb3⟩
  obtain ⟨k3, ns3, nl3, s3, A3, n3, c03, A3', n3', c03', rfl⟩ := hrc.cells
  have HRC := Lib.hid hrc
  clear hrc
  have SR := hp_below HS3.out hb3
  obtain ⟨f0, f1, f2, f3, f4, f5⟩ := frz6 SR
  obtain ⟨t0, t1, t2, t3, t4, t5⟩ := blk6 SR
  obtain ⟨wf, hwf, Sf, Hf, Kf, Zf⟩ := set6_facts (.int .i64 k3) (.string ns3) (.string nl3) (.string s3) (.slice A3 n3 c03) (.slice A3' n3' c03') SR
  have hbf : Below w.heap.size w wf := Hf (hb1.seq hb3) (by omega)
  have HRF : Hid (RepC wf (fun b => w.heap.size ≤ b) R.1 _) := Lib.hid (RepC.keep (fun b hb hl => ⟨by omega, Kf b (by omega)⟩) _ _ HRC.out)
  obtain ⟨g0, g1, g2, g3, g4, g5⟩ := blk6 Sf
  clear Sf SR Hf Kf Zf
  go_wp2_with fail
  (try simp only [Exit.inBlock, Exit.then])
  refine bodyPost_ret (v := .tuple #[.agg #[.int .i64 k3, .string ns3, .string nl3, .string s3, .slice A3 n3 c03, .slice A3' n3' c03'], .int .i64 R.2]) (by simp [results, Tryz.results25, go_sem, g0, g1, g2, g3, g4, g5]) rfl ?_
  refine ⟨[.int .i64 k3, .string ns3, .string nl3, .string s3, .slice A3 n3 c03, .slice A3' n3' c03'], ?_, ?_, hbf⟩
  · rfl
  · exact HRF.out
set_option maxHeartbeats 1000000 in
set_option maxRecDepth 100000 in
theorem refMinus_any (c1 c2 : Cls) (cs1 cs2 : List Value) (w : World) (F1 F2 : Nat → Prop) (hr1 : RepC w F1 c1 cs1) (hr2 : RepC w F2 c2 cs2) (hn : chkR c1 = 0 → chkR c2 = 0 → numL [c1, c2] < 1000) :
    Calls Tryz.prog 27 #[.agg cs1.toArray, .agg cs2.toArray] w fun e w' => ∃ cs, e = .returned (.tuple #[.agg cs.toArray, .int .i64 (resF (orE (chkR c1) (chkR c2)) (normF chkR (fHow 3 c1 c2) (addL [c1, c2] ([], [])))).2]) ∧
      RepC w' (w.heap.size ≤ ·) (resF (orE (chkR c1) (chkR c2)) (normF chkR (fHow 3 c1 c2) (addL [c1, c2] ([], [])))).1 cs ∧ Below w.heap.size w w' := by
  obtain ⟨R, hR⟩ : ∃ R, resF (orE (chkR c1) (chkR c2)) (normF chkR (fHow 3 c1 c2) (addL [c1, c2] ([], []))) = R := ⟨_, rfl⟩
  rw [hR]
  have HRR := Lib.hid hR; have HN := Lib.hid hn
  have hr1' := hr1.here
  have hr2' := hr2.here
  obtain ⟨k1, ns1, nl1, s1, A1, n1, c01, A1', n1', c01', rfl⟩ := hr1.cells
  obtain ⟨k2, ns2, nl2, s2, A2, n2, c02, A2', n2', c02', rfl⟩ := hr2.cells
  obtain ⟨w1, hw1, S1, S2, S3, hsz, hb1⟩ := alloc3_facts w (.cells #[.int .i64 k1, .string ns1, .string nl1, .string s1, .slice A1 n1 c01, .slice A1' n1' c01'] 28) (.cells #[.int .i64 k2, .string ns2, .string nl2, .string s2, .slice A2 n2 c02, .slice A2' n2' c02'] 28) (.cells #[.int .i64 0, .string ⟨#[]⟩, .string ⟨#[]⟩, .string ⟨#[]⟩, .slice none 0 0, .slice none 0 0] 28)
  have HR1 := Lib.hid (hr1'.below hb1); have HR2 := Lib.hid (hr2'.below hb1); have HS3 := Lib.hid S3
  obtain ⟨p0, p1, p2, p3, p4, p5⟩ := blk6 S1
  obtain ⟨q0, q1, q2, q3, q4, q5⟩ := blk6 S2
  clear S1 S2 S3 hr1 hr2 hr1' hr2' hR hn
  go_enter Tryz.func27, Tryz.ntmps27
  go_wp2_with fail
  refine (refcombined_any 3 c1 c2 _ _ w1 _ _ HR1.out HR2.out HN.out).mono ?_
  rw [HRR.out]
  rintro e w3 ⟨cs', rfl, hrc, hb3⟩
  obtain ⟨k3, ns3, nl3, s3, A3, n3, c03, A3', n3', c03', rfl⟩ := hrc.cells
  have HRC := Lib.hid hrc
  clear hrc
  have SR := hp_below HS3.out hb3
  obtain ⟨f0, f1, f2, f3, f4, f5⟩ := frz6 SR
  obtain ⟨t0, t1, t2, t3, t4, t5⟩ := blk6 SR
  obtain ⟨wf, hwf, Sf, Hf, Kf, Zf⟩ := set6_facts (.int .i64 k3) (.string ns3) (.string nl3) (.string s3) (.slice A3 n3 c03) (.slice A3' n3' c03') SR
  have hbf : Below w.heap.size w wf := Hf (hb1.seq hb3) (by omega)
  have HRF : Hid (RepC wf (fun b => w.heap.size ≤ b) R.1 _) := Lib.hid (RepC.keep (fun b hb hl => ⟨by omega, Kf b (by omega)⟩) _ _ HRC.out)
  obtain ⟨g0, g1, g2, g3, g4, g5⟩ := blk6 Sf
  clear Sf SR Hf Kf Zf
  go_wp2_with fail
  (try simp only [Exit.inBlock, Exit.then])
  refine bodyPost_ret (v := .tuple #[.agg #[.int .i64 k3, .string ns3, .string nl3, .string s3, .slice A3 n3 c03, .slice A3' n3' c03'], .int .i64 R.2]) (by simp [results, Tryz.results27, go_sem, g0, g1, g2, g3, g4, g5]) rfl ?_
  refine ⟨[.int .i64 k3, .string ns3, .string nl3, .string s3, .slice A3 n3 c03, .slice A3' n3' c03'], ?_, ?_, hbf⟩
  · rfl
  · exact HRF.out
end Go.Proofs.YtfildbkkmnfekaaGreatDoor
