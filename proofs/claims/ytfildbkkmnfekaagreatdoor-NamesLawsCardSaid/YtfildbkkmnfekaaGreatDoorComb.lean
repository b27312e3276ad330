/- names' Normal, combined, Join, Meet, Minus. -/
import Derived.Test.YtfildbkkmnfekaaGreatDoorG39
import Derived.Test.YtfildbkkmnfekaaGreatDoorPlnC
import Derived.Test.YtfildbkkmnfekaaGreatDoorNrmA
import Derived.Test.YtfildbkkmnfekaaGreatDoorNrmB
import Derived.Test.YtfildbkkmnfekaaGreatDoorG36
import Derived.WalkKit
import Derived.WalkSpells
import Derived.WalkLawsBesides
import Derived.BigGuardPart
import Derived.Lib.Hide
import Derived.Deep.QuietTactic
import Derived.BigQuiet
import Derived.StillTailTactics
import Derived.Deep.DeepCutAuto
import Derived.Deep.CutBlock
import Derived.Laws.EntriesVeiled
namespace Go.Proofs.YtfildbkkmnfekaaGreatDoor
open Go.RowKit

theorem chkN_fun : chkN = chkR := funext chk_eq
theorem chkL_two (c1 c2 : Cls) : chkL [c1, c2] = orE (chkR c1) (chkR c2) := by
  rw [chkL, chkL, chkL, chk_eq, chk_eq]
  unfold orE
  by_cases h1 : chkR c1 = 0
  · rw [if_pos h1, if_pos h1]
    by_cases h2 : chkR c2 = 0
    · rw [if_pos h2, h2]
    · rw [if_neg h2]
  · rw [if_neg h1, if_neg h1]
theorem fHow_eq {how : Int} {c1 c2 : Cls} (h1 : formC c1 = true) (h2 : formC c2 = true) : (fun x : Nm => truthB how (hasC c1 x.1 x.2) (hasC c2 x.1 x.2)) = fHow how c1 c2 := by
  funext x
  rw [hasC_eq _ _ _ h1, hasC_eq _ _ _ h2]; rfl
theorem fHow_zero {c1 : Cls} (h1 : formC c1 = true) : (fun x : Nm => hasC c1 x.1 x.2) = fHow 0 c1 c1 := by
  funext x
  rw [hasC_eq _ _ _ h1]; rfl
theorem orE_zero {e1 e2 : Int} (h : orE e1 e2 = 0) : e1 = 0 ∧ e2 = 0 := by
  unfold orE at h
  by_cases h1 : e1 = 0
  · rw [if_pos h1] at h; exact ⟨h1, h⟩
  · rw [if_neg h1] at h; exact absurd h h1
set_option maxHeartbeats 2000000 in
set_option maxRecDepth 100000 in
theorem Normal_any (c1 : Cls) (cs1 : List Value) (w : World) (F1 : Nat → Prop) (hr1 : RepC w F1 c1 cs1) (hT : Tab w) :
    Calls Tryz.prog 19 #[.agg cs1.toArray] w fun e w' => ∃ cs, e = .returned (.tuple #[.agg cs.toArray, .int .i64 (resF (chkR c1) (normF chkR (fHow 0 c1 c1) (addL [c1, c1] ([], [])))).2]) ∧
      RepC w' (w.heap.size ≤ ·) (resF (chkR c1) (normF chkR (fHow 0 c1 c1) (addL [c1, c1] ([], [])))).1 cs ∧ Below w.heap.size w w' := by
  obtain ⟨e0, he0⟩ : ∃ e1, chkR c1 = e1 := ⟨_, rfl⟩
  obtain ⟨R, hR⟩ : ∃ R, normF chkR (fHow 0 c1 c1) (addL [c1, c1] ([], [])) = R := ⟨_, rfl⟩
  rw [he0, hR]
  have HE0 := Lib.hid he0; have HRR := Lib.hid hR
  have HE1 : Hid (chkN c1 = e0) := Lib.hid (by rw [chk_eq]; exact he0)
  have hr1' := hr1.here
  obtain ⟨k1, ns1, nl1, s1, A1, n1, c01, A1', n1', c01', rfl⟩ := hr1.cells
  obtain ⟨w1, hw1, S1, S3, hsz, hb1⟩ := alloc2_facts w (.cells #[.int .i64 k1, .string ns1, .string nl1, .string s1, .slice A1 n1 c01, .slice A1' n1' c01'] 28) (.cells #[.int .i64 0, .string ⟨#[]⟩, .string ⟨#[]⟩, .string ⟨#[]⟩, .slice none 0 0, .slice none 0 0] 28)
  have HR1 := Lib.hid (hr1'.below hb1); have HS1 := Lib.hid S1; have HS3 := Lib.hid S3; have HT := Lib.hid (hT.below hb1)
  obtain ⟨p0, p1, p2, p3, p4, p5⟩ := blk6 S1
  have hsz0 : w.heap.size < w1.heap.size := by omega
  clear S1 S3 hr1 hr1' he0 hR hT
  by_cases he : e0 = 0
  · subst he
    have hcc : ((0 : Int) != 0) = false := rfl
    have HX : Hid (resF 0 R = R) := Lib.hid (if_pos rfl)
    have HK := Lib.hid (chkR_zero HE0.out)
    go_enter Tryz.func19, Tryz.ntmps19
    go_wp2_with fail
    refine (check_val c1 _ w1 _ HR1.out HE1.out).mono ?_
    rintro e w2 ⟨rfl, hb2⟩
    clear p0 p1 p2 p3 p4 p5
    obtain ⟨p0, p1, p2, p3, p4, p5⟩ := blk6 (hp_below HS1.out hb2)
    obtain ⟨w3, hw3, T3, hsz3, hb3⟩ := alloc_facts w2 (.cells #[.int .i64 k1, .string ns1, .string nl1, .string s1, .slice A1 n1 c01, .slice A1' n1' c01'] 28)
    have hb13 := hb2.seq hb3
    have HR3 := Lib.hid (HR1.out.below (hb13.mono (by omega)))
    have HT3 := Lib.hid T3
    have hs2 := hb2.size
    clear T3
    go_wp2_with fail
    refine (mentioned_any [] none 0 0 [c1] (some ⟨w2.heap.size, 0, none⟩) 1 1 w3 (fun _ => True) (· < w3.heap.size) (RowV.nil _ _ _ _ _) (RowL.one (HR3.out.wide (fun b hb _ => by omega)) HT3.out (by omega)) (by omega) (by omega)).mono ?_
    rintro e w4 ⟨g1, g2, rfl, hM, -, hb4⟩
    have hb14 := hb13.seq hb4
    have HM := Lib.hid hM
    have HC := Lib.hid (candFns_men g1 g2 [c1] [] (by rw [formL, HK.out.2]; rfl) (by rw [numL, numL]; have := HK.out.1; omega) (by simp) (by rw [numL, numL]; have := HK.out.1; simp; omega))
    have HLN : Hid ((addL [c1] ([], [])).1.length < 1000 ∧ (addL [c1] ([], [])).2.length < 1000) := Lib.hid (by have := addL_len [c1] ([], []); rw [numL, numL] at this; have := HK.out.1; simp at *; omega)
    have HCL : Hid (∀ a b W, Below w4.heap.size w4 W → Calls Tryz.prog 57 #[.agg #[.string a, .string b], .pointer (some ⟨w.heap.size, 0, none⟩)] W fun e w' => e = .returned (.bool ((fun x : Nm => hasC c1 x.1 x.2) (a, b))) ∧ Below W.heap.size W w') := Lib.hid fun a b W hW =>
      clo57_any w.heap.size c1 _ a b W _ (HR1.out.below ((hb14.trans (hW.mono hb14.size)).mono (by omega))) (hp_below HS1.out (hb14.trans (hW.mono hb14.size)))
    have HNF : Hid (normF chkN (fun x : Nm => hasC c1 x.1 x.2) (addL [c1] ([], [])) = R) := Lib.hid (by rw [← HRR.out, chkN_fun, fHow_zero HK.out.2, addL_twice])
    have HT4 := Lib.hid (HT.out.below hb14)
    clear hM p0 p1 p2 p3 p4 p5
    go_wp2_with fail
    refine (normal57_any g1 g2 w.heap.size _ _ (fun x : Nm => hasC c1 x.1 x.2) w4 HM.out HT4.out HLN.out HC.out.known HC.out.other HC.out.fresh HCL.out).mono ?_
    rw [HNF.out]
    rintro e w5 ⟨cs', rfl, hrc, hb5⟩
    obtain ⟨k3, ns3, nl3, s3, A3, n3, c03, A3', n3', c03', rfl⟩ := hrc.cells
    have HRC := Lib.hid hrc
    clear hrc
    have hb15 := hb14.seq hb5
    have SR := hp_below HS3.out hb15
    have hsz4 := hb14.size
    obtain ⟨f0, f1, f2, f3, f4, f5⟩ := frz6 SR
    obtain ⟨t0, t1, t2, t3, t4, t5⟩ := blk6 SR
    obtain ⟨wf, hwf, Sf, Hf, Kf, Zf⟩ := set6_facts (.int .i64 k3) (.string ns3) (.string nl3) (.string s3) (.slice A3 n3 c03) (.slice A3' n3' c03') SR
    have hbf : Below w.heap.size w wf := Hf (hb1.seq hb15) (by omega)
    have HRF : Hid (RepC wf (fun b => w.heap.size ≤ b) R.1 _) := Lib.hid (RepC.keep (fun b hb hl => ⟨by omega, Kf b (by omega)⟩) _ _ HRC.out)
    obtain ⟨g0, g1, g2, g3, g4, g5⟩ := blk6 Sf
    clear Sf SR Hf Kf Zf
    go_wp2_with fail
    (try simp only [Exit.inBlock, Exit.then])
    refine bodyPost_ret (v := .tuple #[.agg #[.int .i64 k3, .string ns3, .string nl3, .string s3, .slice A3 n3 c03, .slice A3' n3' c03'], .int .i64 R.2]) (by simp [results, Tryz.results19, go_sem, g0, g1, g2, g3, g4, g5]) rfl ?_
    refine ⟨[.int .i64 k3, .string ns3, .string nl3, .string s3, .slice A3 n3 c03, .slice A3' n3' c03'], ?_, ?_, hbf⟩
    · rw [HX.out]
    · rw [HX.out]; exact HRF.out
  · have hcc : (e0 != 0) = true := by simpa using he
    have HX : Hid (resF e0 R = (zeroC, e0)) := Lib.hid (if_neg he)
    clear he
    go_enter Tryz.func19, Tryz.ntmps19
    go_wp2_with fail
    refine (check_val c1 _ w1 _ HR1.out HE1.out).mono ?_
    rintro e w2 ⟨rfl, hb2⟩
    have SR := hp_below HS3.out hb2
    obtain ⟨f0, f1, f2, f3, f4, f5⟩ := frz6 SR
    obtain ⟨t0, t1, t2, t3, t4, t5⟩ := blk6 SR
    obtain ⟨wf, hwf, Sf, Hf, Kf, Zf⟩ := set6_facts (.int .i64 0) (.string ⟨#[]⟩) (.string ⟨#[]⟩) (.string ⟨#[]⟩) (.slice none 0 0) (.slice none 0 0) SR
    have hbf : Below w.heap.size w wf := Hf (hb1.seq hb2) (by omega)
    obtain ⟨g0, g1, g2, g3, g4, g5⟩ := blk6 Sf
    clear Sf SR Hf Kf Zf
    go_wp2_with fail
    (try simp only [Exit.inBlock, Exit.then])
    refine bodyPost_ret (v := .tuple #[.agg #[.int .i64 0, .string ⟨#[]⟩, .string ⟨#[]⟩, .string ⟨#[]⟩, .slice none 0 0, .slice none 0 0], .int .i64 e0]) (by simp [results, Tryz.results19, go_sem, g0, g1, g2, g3, g4, g5]) rfl ?_
    refine ⟨[.int .i64 0, .string ⟨#[]⟩, .string ⟨#[]⟩, .string ⟨#[]⟩, .slice none 0 0, .slice none 0 0], ?_, ?_, hbf⟩
    · rw [HX.out]
    · rw [HX.out]; exact RepC.mk' (RowL.nil _ _ _) (RowL.nil _ _ _) (by omega) (by omega)
set_option maxHeartbeats 2000000 in
set_option maxRecDepth 100000 in
theorem combined_any (h : Nat) (how : Int) (c1 c2 : Cls) (cs1 cs2 : List Value) (w : World) (F1 F2 : Nat → Prop) (hr1 : RepC w F1 c1 cs1) (hr2 : RepC w F2 c2 cs2) (hT : Tab w)
    (hh : ∀ x y W, Calls Tryz.prog h #[.bool x, .bool y] W fun e w' => e = .returned (.bool (truthB how x y)) ∧ w' = W)
    (hcl : ∀ x y W, (callFunc h #[.bool x, .bool y]).run Tryz.prog W = .ok (.enter h #[.bool x, .bool y]) W) :
    Calls Tryz.prog 59 #[.agg cs1.toArray, .agg cs2.toArray, .func (.func h) #[] #[]] w fun e w' => ∃ cs, e = .returned (.tuple #[.agg cs.toArray, .int .i64 (resF (orE (chkR c1) (chkR c2)) (normF chkR (fHow how c1 c2) (addL [c1, c2] ([], [])))).2]) ∧
      RepC w' (w.heap.size ≤ ·) (resF (orE (chkR c1) (chkR c2)) (normF chkR (fHow how c1 c2) (addL [c1, c2] ([], [])))).1 cs ∧ Below w.heap.size w w' := by
  obtain ⟨e0, he0⟩ : ∃ e1, orE (chkR c1) (chkR c2) = e1 := ⟨_, rfl⟩
  obtain ⟨R, hR⟩ : ∃ R, normF chkR (fHow how c1 c2) (addL [c1, c2] ([], [])) = R := ⟨_, rfl⟩
  rw [he0, hR]
  have HE0 := Lib.hid he0; have HRR := Lib.hid hR; have HH := Lib.hid hh; have HCC := Lib.hid hcl
  have HE1 : Hid (chkL [c1, c2] = e0) := Lib.hid (by rw [chkL_two]; exact he0)
  have hr1' := hr1.here
  have hr2' := hr2.here
  obtain ⟨k1, ns1, nl1, s1, A1, n1, c01, A1', n1', c01', rfl⟩ := hr1.cells
  obtain ⟨k2, ns2, nl2, s2, A2, n2, c02, A2', n2', c02', rfl⟩ := hr2.cells
  obtain ⟨w1, hw1, S1, S2, S0, S3, hsz, hb1⟩ := alloc4b_facts w (.cells #[.int .i64 k1, .string ns1, .string nl1, .string s1, .slice A1 n1 c01, .slice A1' n1' c01'] 28) (.cells #[.int .i64 k2, .string ns2, .string nl2, .string s2, .slice A2 n2 c02, .slice A2' n2' c02'] 28) (.cells #[.func (.func h) #[] #[]] 79) (.cells #[.int .i64 0, .string ⟨#[]⟩, .string ⟨#[]⟩, .string ⟨#[]⟩, .slice none 0 0, .slice none 0 0] 28)
  have HR1 := Lib.hid (hr1'.below hb1); have HR2 := Lib.hid (hr2'.below hb1); have HS1 := Lib.hid S1; have HS2 := Lib.hid S2; have HS0 := Lib.hid S0; have HS3 := Lib.hid S3; have HT := Lib.hid (hT.below hb1)
  obtain ⟨p0, p1, p2, p3, p4, p5⟩ := blk6 S1
  obtain ⟨q0, q1, q2, q3, q4, q5⟩ := blk6 S2
  have hsz0 : w.heap.size < w1.heap.size := by omega
  have hsz1 : w.heap.size + 1 < w1.heap.size := by omega
  obtain ⟨w2, hw2, T2, hsz2, hb2⟩ := alloc_facts w1 (.cells #[.int .i64 k1, .string ns1, .string nl1, .string s1, .slice A1 n1 c01, .slice A1' n1' c01', .int .i64 k2, .string ns2, .string nl2, .string s2, .slice A2 n2 c02, .slice A2' n2' c02'] 28)
  have HT2 := Lib.hid T2
  have HRo : Hid (RowL w2 (· < w2.heap.size) [c1, c2] (some ⟨w1.heap.size, 0, none⟩) 2) := Lib.hid (RowL.two ((HR1.out.below (hb2.mono (by omega))).wide (fun b hb _ => by omega)) ((HR2.out.below (hb2.mono (by omega))).wide (fun b hb _ => by omega)) T2 (by omega))
  have H43 : Hid (Calls Tryz.prog 43 #[.slice (some ⟨w1.heap.size, 0, none⟩) 2 2] w2 fun e w' => e = .returned (.int .i64 e0) ∧ Below w2.heap.size w2 w') := Lib.hid (by rw [← HE1.out]; exact checked_any [c1, c2] _ 2 2 w2 _ HRo.out (by omega))
  clear S1 S2 S0 S3 T2 hr1 hr2 hr1' hr2' he0 hR hT hh hcl
  by_cases he : e0 = 0
  · subst he
    have hcc : ((0 : Int) != 0) = false := rfl
    have HX : Hid (resF 0 R = R) := Lib.hid (if_pos rfl)
    have HK1 := Lib.hid (chkR_zero (orE_zero HE0.out).1); have HK2 := Lib.hid (chkR_zero (orE_zero HE0.out).2)
    go_enter Tryz.func59, Tryz.ntmps59
    go_wp2_with fail
    refine H43.out.mono ?_
    rintro e w3 ⟨rfl, hb3⟩
    have hb13 := hb2.seq hb3
    clear p0 p1 p2 p3 p4 p5 q0 q1 q2 q3 q4 q5
    obtain ⟨p0, p1, p2, p3, p4, p5⟩ := blk6 (hp_below HS1.out hb13)
    obtain ⟨q0, q1, q2, q3, q4, q5⟩ := blk6 (hp_below HS2.out hb13)
    have hs3 := hb13.size
    obtain ⟨w4, hw4, T4, hsz4, hb4⟩ := alloc_facts w3 (.cells #[.int .i64 k1, .string ns1, .string nl1, .string s1, .slice A1 n1 c01, .slice A1' n1' c01', .int .i64 k2, .string ns2, .string nl2, .string s2, .slice A2 n2 c02, .slice A2' n2' c02'] 28)
    have hb14 := hb13.seq hb4
    have HR4 : Hid (RowL w4 (· < w4.heap.size) [c1, c2] (some ⟨w3.heap.size, 0, none⟩) 2) := Lib.hid (RowL.two ((HR1.out.below (hb14.mono (by omega))).wide (fun b hb _ => by omega)) ((HR2.out.below (hb14.mono (by omega))).wide (fun b hb _ => by omega)) T4 (by omega))
    clear T4
    go_wp2_with fail
    refine (mentioned_any [] none 0 0 [c1, c2] (some ⟨w3.heap.size, 0, none⟩) 2 2 w4 (fun _ => True) (· < w4.heap.size) (RowV.nil _ _ _ _ _) HR4.out (by omega) (by omega)).mono ?_
    rintro e w5 ⟨g1, g2, rfl, hM, -, hb5⟩
    have hb15 := hb14.seq hb5
    have HM := Lib.hid hM
    have HN : Hid (numL [c1, c2] ≤ 200) := Lib.hid (by rw [numL, numL, numL]; have := HK1.out.1; have := HK2.out.1; omega)
    have HC := Lib.hid (candFns_men g1 g2 [c1, c2] [] (by rw [formL, formL, HK1.out.2, HK2.out.2]; rfl) (by have := HN.out; omega) (by simp) (by have := HN.out; simp; omega))
    have HLN : Hid ((addL [c1, c2] ([], [])).1.length < 1000 ∧ (addL [c1, c2] ([], [])).2.length < 1000) := Lib.hid (by have := addL_len [c1, c2] ([], []); have := HN.out; simp at *; omega)
    have HCL : Hid (∀ a b W, Below w5.heap.size w5 W → Calls Tryz.prog 88 #[.agg #[.string a, .string b], .pointer (some ⟨w.heap.size + 1 + 1, 0, none⟩), .pointer (some ⟨w.heap.size, 0, none⟩), .pointer (some ⟨w.heap.size + 1, 0, none⟩)] W fun e w' => e = .returned (.bool ((fun x : Nm => truthB how (hasC c1 x.1 x.2) (hasC c2 x.1 x.2)) (a, b))) ∧ Below W.heap.size W w') := Lib.hid fun a b W hW =>
      have hbW := hb15.trans (hW.mono hb15.size)
      clo88_any h _ _ _ (truthB how) c1 c2 _ _ a b W _ _ (HR1.out.below (hbW.mono (by omega))) (HR2.out.below (hbW.mono (by omega))) HH.out HCC.out (hp_below HS0.out hbW) (hp_below HS1.out hbW) (hp_below HS2.out hbW)
    have HNF : Hid (normF chkN (fun x : Nm => truthB how (hasC c1 x.1 x.2) (hasC c2 x.1 x.2)) (addL [c1, c2] ([], [])) = R) := Lib.hid (by rw [← HRR.out, chkN_fun, fHow_eq HK1.out.2 HK2.out.2])
    have HT5 := Lib.hid (HT.out.below hb15)
    clear hM p0 p1 p2 p3 p4 p5 q0 q1 q2 q3 q4 q5
    go_wp2_with fail
    refine (normal88_any g1 g2 _ _ _ _ _ (fun x : Nm => truthB how (hasC c1 x.1 x.2) (hasC c2 x.1 x.2)) w5 HM.out HT5.out HLN.out HC.out.known HC.out.other HC.out.fresh HCL.out).mono ?_
    rw [HNF.out]
    rintro e w6 ⟨cs', rfl, hrc, hb6⟩
    obtain ⟨k3, ns3, nl3, s3, A3, n3, c03, A3', n3', c03', rfl⟩ := hrc.cells
    have HRC := Lib.hid hrc
    clear hrc
    have hb16 := hb15.seq hb6
    have SR := hp_below HS3.out hb16
    have hsz5 := hb15.size
    obtain ⟨f0, f1, f2, f3, f4, f5⟩ := frz6 SR
    obtain ⟨t0, t1, t2, t3, t4, t5⟩ := blk6 SR
    obtain ⟨wf, hwf, Sf, Hf, Kf, Zf⟩ := set6_facts (.int .i64 k3) (.string ns3) (.string nl3) (.string s3) (.slice A3 n3 c03) (.slice A3' n3' c03') SR
    have hbf : Below w.heap.size w wf := Hf (hb1.seq hb16) (by omega)
    have HRF : Hid (RepC wf (fun b => w.heap.size ≤ b) R.1 _) := Lib.hid (RepC.keep (fun b hb hl => ⟨by omega, Kf b (by omega)⟩) _ _ HRC.out)
    obtain ⟨g0, g1, g2, g3, g4, g5⟩ := blk6 Sf
    clear Sf SR Hf Kf Zf
    go_wp2_with fail
    (try simp only [Exit.inBlock, Exit.then])
    refine bodyPost_ret (v := .tuple #[.agg #[.int .i64 k3, .string ns3, .string nl3, .string s3, .slice A3 n3 c03, .slice A3' n3' c03'], .int .i64 R.2]) (by simp [results, Tryz.results59, go_sem, g0, g1, g2, g3, g4, g5]) rfl ?_
    refine ⟨[.int .i64 k3, .string ns3, .string nl3, .string s3, .slice A3 n3 c03, .slice A3' n3' c03'], ?_, ?_, hbf⟩
    · rw [HX.out]
    · rw [HX.out]; exact HRF.out
  · have hcc : (e0 != 0) = true := by simpa using he
    have HX : Hid (resF e0 R = (zeroC, e0)) := Lib.hid (if_neg he)
    clear he
    go_enter Tryz.func59, Tryz.ntmps59
    go_wp2_with fail
    refine H43.out.mono ?_
    rintro e w3 ⟨rfl, hb3⟩
    have SR := hp_below HS3.out (hb2.seq hb3)
    obtain ⟨f0, f1, f2, f3, f4, f5⟩ := frz6 SR
    obtain ⟨t0, t1, t2, t3, t4, t5⟩ := blk6 SR
    obtain ⟨wf, hwf, Sf, Hf, Kf, Zf⟩ := set6_facts (.int .i64 0) (.string ⟨#[]⟩) (.string ⟨#[]⟩) (.string ⟨#[]⟩) (.slice none 0 0) (.slice none 0 0) SR
    have hbf : Below w.heap.size w wf := Hf (hb1.seq (hb2.seq hb3)) (by omega)
    obtain ⟨g0, g1, g2, g3, g4, g5⟩ := blk6 Sf
    clear Sf SR Hf Kf Zf
    go_wp2_with fail
    (try simp only [Exit.inBlock, Exit.then])
    refine bodyPost_ret (v := .tuple #[.agg #[.int .i64 0, .string ⟨#[]⟩, .string ⟨#[]⟩, .string ⟨#[]⟩, .slice none 0 0, .slice none 0 0], .int .i64 e0]) (by simp [results, Tryz.results59, go_sem, g0, g1, g2, g3, g4, g5]) rfl ?_
    refine ⟨[.int .i64 0, .string ⟨#[]⟩, .string ⟨#[]⟩, .string ⟨#[]⟩, .slice none 0 0, .slice none 0 0], ?_, ?_, hbf⟩
    · rw [HX.out]
    · rw [HX.out]; exact RepC.mk' (RowL.nil _ _ _) (RowL.nil _ _ _) (by omega) (by omega)
set_option maxHeartbeats 1000000 in
set_option maxRecDepth 100000 in
theorem Join_any (c1 c2 : Cls) (cs1 cs2 : List Value) (w : World) (F1 F2 : Nat → Prop) (hr1 : RepC w F1 c1 cs1) (hr2 : RepC w F2 c2 cs2) (hT : Tab w) :
    Calls Tryz.prog 22 #[.agg cs1.toArray, .agg cs2.toArray] w fun e w' => ∃ cs, e = .returned (.tuple #[.agg cs.toArray, .int .i64 (resF (orE (chkR c1) (chkR c2)) (normF chkR (fHow 1 c1 c2) (addL [c1, c2] ([], [])))).2]) ∧
      RepC w' (w.heap.size ≤ ·) (resF (orE (chkR c1) (chkR c2)) (normF chkR (fHow 1 c1 c2) (addL [c1, c2] ([], [])))).1 cs ∧ Below w.heap.size w w' := by
  obtain ⟨R, hR⟩ : ∃ R, resF (orE (chkR c1) (chkR c2)) (normF chkR (fHow 1 c1 c2) (addL [c1, c2] ([], []))) = R := ⟨_, rfl⟩
  rw [hR]
  have HRR := Lib.hid hR
  have hr1' := hr1.here
  have hr2' := hr2.here
  obtain ⟨k1, ns1, nl1, s1, A1, n1, c01, A1', n1', c01', rfl⟩ := hr1.cells
  obtain ⟨k2, ns2, nl2, s2, A2, n2, c02, A2', n2', c02', rfl⟩ := hr2.cells
  obtain ⟨w1, hw1, S1, S2, S3, hsz, hb1⟩ := alloc3_facts w (.cells #[.int .i64 k1, .string ns1, .string nl1, .string s1, .slice A1 n1 c01, .slice A1' n1' c01'] 28) (.cells #[.int .i64 k2, .string ns2, .string nl2, .string s2, .slice A2 n2 c02, .slice A2' n2' c02'] 28) (.cells #[.int .i64 0, .string ⟨#[]⟩, .string ⟨#[]⟩, .string ⟨#[]⟩, .slice none 0 0, .slice none 0 0] 28)
  have HR1 := Lib.hid (hr1'.below hb1); have HR2 := Lib.hid (hr2'.below hb1); have HS3 := Lib.hid S3; have HT := Lib.hid (hT.below hb1)
  obtain ⟨p0, p1, p2, p3, p4, p5⟩ := blk6 S1
  obtain ⟨q0, q1, q2, q3, q4, q5⟩ := blk6 S2
  clear S1 S2 S3 hr1 hr2 hr1' hr2' hR hT
  go_enter Tryz.func22, Tryz.ntmps22
  go_wp2_with fail
  refine (combined_any 60 1 c1 c2 _ _ w1 _ _ HR1.out HR2.out HT.out (fun x y W => how60_any x y W) call60).mono ?_
  rw [HRR.out]
  rintro e w3 ⟨cs', rfl, hrc, hb3⟩
  obtain ⟨k3, ns3, nl3, s3, A3, n3, c03, A3', n3', c03', rfl⟩ := hrc.cells
  have HRC := Lib.hid hrc
  clear hrc
  have SR := hp_below HS3.out hb3
  obtain ⟨f0, f1, f2, f3, f4, f5⟩ := frz6 SR
  obtain ⟨t0, t1, t2, t3, t4, t5⟩ := blk6 SR
  obtain ⟨wf, hwf, Sf, Hf, Kf, Zf⟩ := set6_facts (.int .i64 k3) (.string ns3) (.string nl3) (.string s3) (.slice A3 n3 c03) (.slice A3' n3' c03') SR
  have hbf : Below w.heap.size w wf := Hf (hb1.seq hb3) (by omega)
  have HRF : Hid (RepC wf (fun b => w.heap.size ≤ b) R.1 _) := Lib.hid (RepC.keep (fun b hb hl => ⟨by omega, Kf b (by omega)⟩) _ _ HRC.out)
  obtain ⟨g0, g1, g2, g3, g4, g5⟩ := blk6 Sf
  clear Sf SR Hf Kf Zf
  go_wp2_with fail
  (try simp only [Exit.inBlock, Exit.then])
  refine bodyPost_ret (v := .tuple #[.agg #[.int .i64 k3, .string ns3, .string nl3, .string s3, .slice A3 n3 c03, .slice A3' n3' c03'], .int .i64 R.2]) (by simp [results, Tryz.results22, go_sem, g0, g1, g2, g3, g4, g5]) rfl ?_
  refine ⟨[.int .i64 k3, .string ns3, .string nl3, .string s3, .slice A3 n3 c03, .slice A3' n3' c03'], ?_, ?_, hbf⟩
  · rfl
  · exact HRF.out
set_option maxHeartbeats 1000000 in
set_option maxRecDepth 100000 in
theorem Meet_any (c1 c2 : Cls) (cs1 cs2 : List Value) (w : World) (F1 F2 : Nat → Prop) (hr1 : RepC w F1 c1 cs1) (hr2 : RepC w F2 c2 cs2) (hT : Tab w) :
    Calls Tryz.prog 24 #[.agg cs1.toArray, .agg cs2.toArray] w fun e w' => ∃ cs, e = .returned (.tuple #[.agg cs.toArray, .int .i64 (resF (orE (chkR c1) (chkR c2)) (normF chkR (fHow 2 c1 c2) (addL [c1, c2] ([], [])))).2]) ∧
      RepC w' (w.heap.size ≤ ·) (resF (orE (chkR c1) (chkR c2)) (normF chkR (fHow 2 c1 c2) (addL [c1, c2] ([], [])))).1 cs ∧ Below w.heap.size w w' := by
  obtain ⟨R, hR⟩ : ∃ R, resF (orE (chkR c1) (chkR c2)) (normF chkR (fHow 2 c1 c2) (addL [c1, c2] ([], []))) = R := ⟨_, rfl⟩
  rw [hR]
  have HRR := Lib.hid hR
  have hr1' := hr1.here
  have hr2' := hr2.here
  obtain ⟨k1, ns1, nl1, s1, A1, n1, c01, A1', n1', c01', rfl⟩ := hr1.cells
  obtain ⟨k2, ns2, nl2, s2, A2, n2, c02, A2', n2', c02', rfl⟩ := hr2.cells
  obtain ⟨w1, hw1, S1, S2, S3, hsz, hb1⟩ := alloc3_facts w (.cells #[.int .i64 k1, .string ns1, .string nl1, .string s1, .slice A1 n1 c01, .slice A1' n1' c01'] 28) (.cells #[.int .i64 k2, .string ns2, .string nl2, .string s2, .slice A2 n2 c02, .slice A2' n2' c02'] 28) (.cells #[.int .i64 0, .string ⟨#[]⟩, .string ⟨#[]⟩, .string ⟨#[]⟩, .slice none 0 0, .slice none 0 0] 28)
  have HR1 := Lib.hid (hr1'.below hb1); have HR2 := Lib.hid (hr2'.below hb1); have HS3 := Lib.hid S3; have HT := Lib.hid (hT.below hb1)
  obtain ⟨p0, p1, p2, p3, p4, p5⟩ := blk6 S1
  obtain ⟨q0, q1, q2, q3, q4, q5⟩ := blk6 S2
  clear S1 S2 S3 hr1 hr2 hr1' hr2' hR hT
  go_enter Tryz.func24, Tryz.ntmps24
  go_wp2_with fail
  refine (combined_any 62 2 c1 c2 _ _ w1 _ _ HR1.out HR2.out HT.out (fun x y W => how62_any x y W) call62).mono ?_
  rw [HRR.out]
  rintro e w3 ⟨cs', rfl, hrc, hb3⟩
  obtain ⟨k3, ns3, nl3, s3, A3, n3, c03, A3', n3', c03', rfl⟩ := hrc.cells
  have HRC := Lib.hid hrc
  clear hrc
  have SR := hp_below HS3.out hb3
  obtain ⟨f0, f1, f2, f3, f4, f5⟩ := frz6 SR
  obtain ⟨t0, t1, t2, t3, t4, t5⟩ := blk6 SR
  obtain ⟨wf, hwf, Sf, Hf, Kf, Zf⟩ := set6_facts (.int .i64 k3) (.string ns3) (.string nl3) (.string s3) (.slice A3 n3 c03) (.slice A3' n3' c03') SR
  have hbf : Below w.heap.size w wf := Hf (hb1.seq hb3) (by omega)
  have HRF : Hid (RepC wf (fun b => w.heap.size ≤ b) R.1 _) := Lib.hid (RepC.keep (fun b hb hl => ⟨by omega, Kf b (by omega)⟩) _ _ HRC.out)
  obtain ⟨g0, g1, g2, g3, g4, g5⟩ := blk6 Sf
  clear Sf SR Hf Kf Zf
  go_wp2_with fail
  (try simp only [Exit.inBlock, Exit.then])
  refine bodyPost_ret (v := .tuple #[.agg #[.int .i64 k3, .string ns3, .string nl3, .string s3, .slice A3 n3 c03, .slice A3' n3' c03'], .int .i64 R.2]) (by simp [results, Tryz.results24, go_sem, g0, g1, g2, g3, g4, g5]) rfl ?_
  refine ⟨[.int .i64 k3, .string ns3, .string nl3, .string s3, .slice A3 n3 c03, .slice A3' n3' c03'], ?_, ?_, hbf⟩
  · rfl
  · exact HRF.out
set_option maxHeartbeats 1000000 in
set_option maxRecDepth 100000 in
theorem Minus_any (c1 c2 : Cls) (cs1 cs2 : List Value) (w : World) (F1 F2 : Nat → Prop) (hr1 : RepC w F1 c1 cs1) (hr2 : RepC w F2 c2 cs2) (hT : Tab w) :
    Calls Tryz.prog 26 #[.agg cs1.toArray, .agg cs2.toArray] w fun e w' => ∃ cs, e = .returned (.tuple #[.agg cs.toArray, .int .i64 (resF (orE (chkR c1) (chkR c2)) (normF chkR (fHow 3 c1 c2) (addL [c1, c2] ([], [])))).2]) ∧
      RepC w' (w.heap.size ≤ ·) (resF (orE (chkR c1) (chkR c2)) (normF chkR (fHow 3 c1 c2) (addL [c1, c2] ([], [])))).1 cs ∧ Below w.heap.size w w' := by
  obtain ⟨R, hR⟩ : ∃ R, resF (orE (chkR c1) (chkR c2)) (normF chkR (fHow 3 c1 c2) (addL [c1, c2] ([], []))) = R := ⟨_, rfl⟩
  rw [hR]
  have HRR := Lib.hid hR
  have hr1' := hr1.here
  have hr2' := hr2.here
  obtain ⟨k1, ns1, nl1, s1, A1, n1, c01, A1', n1', c01', rfl⟩ := hr1.cells
  obtain ⟨k2, ns2, nl2, s2, A2, n2, c02, A2', n2', c02', rfl⟩ := hr2.cells
  obtain ⟨w1, hw1, S1, S2, S3, hsz, hb1⟩ := alloc3_facts w (.cells #[.int .i64 k1, .string ns1, .string nl1, .string s1, .slice A1 n1 c01, .slice A1' n1' c01'] 28) (.cells #[.int .i64 k2, .string ns2, .string nl2, .string s2, .slice A2 n2 c02, .slice A2' n2' c02'] 28) (.cells #[.int .i64 0, .string ⟨#[]⟩, .string ⟨#[]⟩, .string ⟨#[]⟩, .slice none 0 0, .slice none 0 0] 28)
  have HR1 := Lib.hid (hr1'.below hb1); have HR2 := Lib.hid (hr2'.below hb1); have HS3 := Lib.hid S3; have HT := Lib.hid (hT.below hb1)
  obtain ⟨p0, p1, p2, p3, p4, p5⟩ := blk6 S1
  obtain ⟨q0, q1, q2, q3, q4, q5⟩ := blk6 S2
  clear S1 S2 S3 hr1 hr2 hr1' hr2' hR hT
  go_enter Tryz.func26, Tryz.ntmps26
  go_wp2_with fail
  refine (combined_any 63 3 c1 c2 _ _ w1 _ _ HR1.out HR2.out HT.out (fun x y W => how63_any x y W) call63).mono ?_
  rw [HRR.out]
  rintro e w3 ⟨cs', rfl, hrc, hb3⟩
  obtain ⟨k3, ns3, nl3, s3, A3, n3, c03, A3', n3', c03', rfl⟩ := hrc.cells
  have HRC := Lib.hid hrc
  clear hrc
  have SR := hp_below HS3.out hb3
  obtain ⟨f0, f1, f2, f3, f4, f5⟩ := frz6 SR
  obtain ⟨t0, t1, t2, t3, t4, t5⟩ := blk6 SR
  obtain ⟨wf, hwf, Sf, Hf, Kf, Zf⟩ := set6_facts (.int .i64 k3) (.string ns3) (.string nl3) (.string s3) (.slice A3 n3 c03) (.slice A3' n3' c03') SR
  have hbf : Below w.heap.size w wf := Hf (hb1.seq hb3) (by omega)
  have HRF : Hid (RepC wf (fun b => w.heap.size ≤ b) R.1 _) := Lib.hid (RepC.keep (fun b hb hl => ⟨by omega, Kf b (by omega)⟩) _ _ HRC.out)
  obtain ⟨g0, g1, g2, g3, g4, g5⟩ := blk6 Sf
  clear Sf SR Hf Kf Zf
  go_wp2_with fail
  (try simp only [Exit.inBlock, Exit.then])
  refine bodyPost_ret (v := .tuple #[.agg #[.int .i64 k3, .string ns3, .string nl3, .string s3, .slice A3 n3 c03, .slice A3' n3' c03'], .int .i64 R.2]) (by simp [results, Tryz.results26, go_sem, g0, g1, g2, g3, g4, g5]) rfl ?_
  refine ⟨[.int .i64 k3, .string ns3, .string nl3, .string s3, .slice A3 n3 c03, .slice A3' n3' c03'], ?_, ?_, hbf⟩
  · rfl
  · exact HRF.out
end Go.Proofs.YtfildbkkmnfekaaGreatDoor
