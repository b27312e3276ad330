/- Two classes. gabaritref01's some. -/
import Derived.Test.YtfildbkkmnfekaaGreatDoorG18
import Derived.Test.YtfildbkkmnfekaaGreatDoorRNorm
import Derived.Test.YtfildbkkmnfekaaGreatDoorG11
import Derived.WalkKit
import Derived.WalkSpells
import Derived.WalkLawsBesides
import Derived.BigGuardPart
import Derived.Lib.Hide
import Derived.Deep.QuietTactic
import Derived.BigQuiet
import Derived.StillTailTactics
import Derived.Deep.DeepCutAuto
import Derived.Deep.CutBlock
import Derived.Laws.EntriesVeiled
namespace Go.Proofs.YtfildbkkmnfekaaGreatDoor
open Go.RowKit

/-- The first error of two. -/
def orE (e1 e2 : Int) : Int := if e1 = 0 then e2 else e1
theorem two_val (c1 c2 : Cls) (cs1 cs2 : List Value) (w : World) (F1 F2 : Nat → Prop) (hr1 : RepC w F1 c1 cs1) (hr2 : RepC w F2 c2 cs2) {e1 e2 : Int} (h1 : chkR c1 = e1) (h2 : chkR c2 = e2) :
    Calls Tryz.prog 68 #[.agg cs1.toArray, .agg cs2.toArray] w fun e w' => e = .returned (.int .i64 (orE e1 e2)) ∧ Below w.heap.size w w' := by
  have hr1' := hr1.here
  have hr2' := hr2.here
  obtain ⟨k1, ns1, nl1, s1, A1, n1, c01, A1', n1', c01', rfl⟩ := hr1.cells
  obtain ⟨k2, ns2, nl2, s2, A2, n2, c02, A2', n2', c02', rfl⟩ := hr2.cells
  obtain ⟨w1, hw1, S1, S2, hsz, hb1⟩ := alloc2_facts w (.cells #[.int .i64 k1, .string ns1, .string nl1, .string s1, .slice A1 n1 c01, .slice A1' n1' c01'] 28) (.cells #[.int .i64 k2, .string ns2, .string nl2, .string s2, .slice A2 n2 c02, .slice A2' n2' c02'] 28)
  have HR1 := Lib.hid (hr1'.below hb1); have HR2 := Lib.hid (hr2'.below hb1); have HE1 := Lib.hid h1; have HE2 := Lib.hid h2
  obtain ⟨p0, p1, p2, p3, p4, p5⟩ := blk6 S1
  obtain ⟨q0, q1, q2, q3, q4, q5⟩ := blk6 S2
  have hsz0 : w.heap.size < w1.heap.size := by omega
  clear S1 S2 hr1 hr2 hr1' hr2' h1 h2
  by_cases he : e1 = 0
  · subst he
    have hcc : ((0 : Int) != 0) = false := rfl
    go_enter Tryz.func68, Tryz.ntmps68
    go_wp2_with fail
    refine (refcheck_val c1 _ w1 _ HR1.out HE1.out).mono ?_
    rintro e w2 ⟨rfl, hb2⟩
    obtain ⟨hc2, hf2⟩ := bcell hb2
    go_wp2_with fail
    refine (refcheck_val c2 _ w2 _ (HR2.out.below (hb2.mono (by omega))) HE2.out).mono ?_
    rintro e w3 ⟨rfl, hb3⟩
    go_wp2_with fail
    go_ret
    exact ⟨rfl, hb1.seq (hb2.seq hb3)⟩
  · have hcc : (e1 != 0) = true := by simpa using he
    have HX : Hid (orE e1 e2 = e1) := Lib.hid (if_neg he)
    clear he
    go_enter Tryz.func68, Tryz.ntmps68
    go_wp2_with fail
    refine (refcheck_val c1 _ w1 _ HR1.out HE1.out).mono ?_
    rintro e w2 ⟨rfl, hb2⟩
    go_wp2_with fail
    go_ret
    exact ⟨by rw [HX.out]; rfl, hb1.seq hb2⟩
/-- What Normal, Join, Meet, Minus return: of two classes. -/
def resF (e : Int) (r : Cls × Int) : Cls × Int := if e = 0 then r else (zeroC, e)
set_option maxHeartbeats 2000000 in
set_option maxRecDepth 100000 in
theorem refcombined_any (how : Int) (c1 c2 : Cls) (cs1 cs2 : List Value) (w : World) (F1 F2 : Nat → Prop) (hr1 : RepC w F1 c1 cs1) (hr2 : RepC w F2 c2 cs2) (hn : chkR c1 = 0 → chkR c2 = 0 → numL [c1, c2] < 1000) :
    Calls Tryz.prog 61 #[.int .i64 how, .agg cs1.toArray, .agg cs2.toArray] w fun e w' => ∃ cs, e = .returned (.tuple #[.agg cs.toArray, .int .i64 (resF (orE (chkR c1) (chkR c2)) (normF chkR (fHow how c1 c2) (addL [c1, c2] ([], [])))).2]) ∧
      RepC w' (w.heap.size ≤ ·) (resF (orE (chkR c1) (chkR c2)) (normF chkR (fHow how c1 c2) (addL [c1, c2] ([], [])))).1 cs ∧ Below w.heap.size w w' := by
  obtain ⟨e1, he1⟩ : ∃ e1, chkR c1 = e1 := ⟨_, rfl⟩
  obtain ⟨e2, he2⟩ : ∃ e2, chkR c2 = e2 := ⟨_, rfl⟩
  obtain ⟨R, hR⟩ : ∃ R, normF chkR (fHow how c1 c2) (addL [c1, c2] ([], [])) = R := ⟨_, rfl⟩
  rw [he1, he2] at hn
  rw [he1, he2, hR]
  have HE1 := Lib.hid he1; have HE2 := Lib.hid he2; have HRR := Lib.hid hR; have HN := Lib.hid hn
  have hr1' := hr1.here
  have hr2' := hr2.here
  obtain ⟨k1, ns1, nl1, s1, A1, n1, c01, A1', n1', c01', rfl⟩ := hr1.cells
  obtain ⟨k2, ns2, nl2, s2, A2, n2, c02, A2', n2', c02', rfl⟩ := hr2.cells
  obtain ⟨w1, hw1, S1, S2, S3, hsz, hb1⟩ := alloc3_facts w (.cells #[.int .i64 k1, .string ns1, .string nl1, .string s1, .slice A1 n1 c01, .slice A1' n1' c01'] 28) (.cells #[.int .i64 k2, .string ns2, .string nl2, .string s2, .slice A2 n2 c02, .slice A2' n2' c02'] 28) (.cells #[.int .i64 0, .string ⟨#[]⟩, .string ⟨#[]⟩, .string ⟨#[]⟩, .slice none 0 0, .slice none 0 0] 28)
  have HR1 := Lib.hid (hr1'.below hb1); have HR2 := Lib.hid (hr2'.below hb1); have HS3 := Lib.hid S3
  obtain ⟨p0, p1, p2, p3, p4, p5⟩ := blk6 S1
  obtain ⟨q0, q1, q2, q3, q4, q5⟩ := blk6 S2
  have hsz0 : w.heap.size < w1.heap.size := by omega
  have hsz1 : w.heap.size + 1 < w1.heap.size := by omega
  clear S1 S2 S3 hr1 hr2 hr1' hr2' he1 he2 hR hn
  obtain ⟨e0, he0⟩ : ∃ e0, orE e1 e2 = e0 := ⟨_, rfl⟩
  have H2 : Hid (∀ W F1 F2, RepC W F1 c1 _ → RepC W F2 c2 _ → Calls Tryz.prog 68 #[.agg #[.int .i64 k1, .string ns1, .string nl1, .string s1, .slice A1 n1 c01, .slice A1' n1' c01'], .agg #[.int .i64 k2, .string ns2, .string nl2, .string s2, .slice A2 n2 c02, .slice A2' n2' c02']] W fun e w' => e = .returned (.int .i64 e0) ∧ Below W.heap.size W w') := Lib.hid fun W F1 F2 h1 h2 => by
    rw [← he0]; exact two_val c1 c2 _ _ W F1 F2 h1 h2 HE1.out HE2.out
  rw [he0]
  have HE0 := Lib.hid he0
  clear he0
  by_cases he : e0 = 0
  · subst he
    have hcc : ((0 : Int) != 0) = false := rfl
    have HX : Hid (resF 0 R = R) := Lib.hid (if_pos rfl)
    have HZ : Hid (e1 = 0 ∧ e2 = 0) := Lib.hid (by
      have h := HE0.out
      unfold orE at h
      by_cases h1 : e1 = 0
      · rw [if_pos h1] at h; exact ⟨h1, h⟩
      · rw [if_neg h1] at h; exact absurd h h1)
    go_enter Tryz.func61, Tryz.ntmps61
    go_wp2_with fail
    refine (H2.out w1 _ _ HR1.out HR2.out).mono ?_
    rintro e w2 ⟨rfl, hb2⟩
    obtain ⟨hc2, hf2⟩ := bcell hb2
    go_wp2_with fail
    refine (refnormal_any how c1 c2 _ _ w2 _ _ (HR1.out.below (hb2.mono (by omega))) (HR2.out.below (hb2.mono (by omega))) (HN.out HZ.out.1 HZ.out.2)).mono ?_
    rw [HRR.out]
    rintro e w3 ⟨cs', rfl, hrc, hb3⟩
    obtain ⟨k3, ns3, nl3, s3, A3, n3, c03, A3', n3', c03', rfl⟩ := hrc.cells
    have HRC := Lib.hid hrc
    clear hrc
    have hb13 := hb2.seq hb3
    have SR := hp_below HS3.out hb13
    have hsz2 := hb2.size
    obtain ⟨f0, f1, f2, f3, f4, f5⟩ := frz6 SR
    obtain ⟨t0, t1, t2, t3, t4, t5⟩ := blk6 SR
    obtain ⟨wf, hwf, Sf, Hf, Kf, Zf⟩ := set6_facts (.int .i64 k3) (.string ns3) (.string nl3) (.string s3) (.slice A3 n3 c03) (.slice A3' n3' c03') SR
    have hbf : Below w.heap.size w wf := Hf (hb1.seq hb13) (by omega)
    have HRF : Hid (RepC wf (fun b => w.heap.size ≤ b) R.1 _) := Lib.hid (RepC.keep (fun b hb hl => ⟨by omega, Kf b (by omega)⟩) _ _ HRC.out)
    obtain ⟨g0, g1, g2, g3, g4, g5⟩ := blk6 Sf
    clear Sf SR Hf Kf Zf
    go_wp2_with fail
    (try simp only [Exit.inBlock, Exit.then])
    refine bodyPost_ret (v := .tuple #[.agg #[.int .i64 k3, .string ns3, .string nl3, .string s3, .slice A3 n3 c03, .slice A3' n3' c03'], .int .i64 R.2]) (by simp [results, Tryz.results61, go_sem, g0, g1, g2, g3, g4, g5]) rfl ?_
    refine ⟨[.int .i64 k3, .string ns3, .string nl3, .string s3, .slice A3 n3 c03, .slice A3' n3' c03'], ?_, ?_, hbf⟩
    · rw [HX.out]
    · rw [HX.out]; exact HRF.out
  · have hcc : (e0 != 0) = true := by simpa using he
    have HX : Hid (resF e0 R = (zeroC, e0)) := Lib.hid (if_neg he)
    clear he
    go_enter Tryz.func61, Tryz.ntmps61
    go_wp2_with fail
    refine (H2.out w1 _ _ HR1.out HR2.out).mono ?_
    rintro e w2 ⟨rfl, hb2⟩
    have SR := hp_below HS3.out hb2
    obtain ⟨f0, f1, f2, f3, f4, f5⟩ := frz6 SR
    obtain ⟨t0, t1, t2, t3, t4, t5⟩ := blk6 SR
    obtain ⟨wf, hwf, Sf, Hf, Kf, Zf⟩ := set6_facts (.int .i64 0) (.string ⟨#[]⟩) (.string ⟨#[]⟩) (.string ⟨#[]⟩) (.slice none 0 0) (.slice none 0 0) SR
    have hbf : Below w.heap.size w wf := Hf (hb1.seq hb2) (by omega)
    obtain ⟨g0, g1, g2, g3, g4, g5⟩ := blk6 Sf
    clear Sf SR Hf Kf Zf
    go_wp2_with fail
    (try simp only [Exit.inBlock, Exit.then])
    refine bodyPost_ret (v := .tuple #[.agg #[.int .i64 0, .string ⟨#[]⟩, .string ⟨#[]⟩, .string ⟨#[]⟩, .slice none 0 0, .slice none 0 0], .int .i64 e0]) (by simp [results, Tryz.results61, go_sem, g0, g1, g2, g3, g4, g5]) rfl ?_
    refine ⟨[.int .i64 0, .string ⟨#[]⟩, .string ⟨#[]⟩, .string ⟨#[]⟩, .slice none 0 0, .slice none 0 0], ?_, ?_, hbf⟩
    · rw [HX.out]
    · rw [HX.out]; exact RepC.mk' (RowL.nil _ _ _) (RowL.nil _ _ _) (by omega) (by omega)
end Go.Proofs.YtfildbkkmnfekaaGreatDoor
namespace Go.Proofs.YtfildbkkmnfekaaGreatDoor
open Go.RowKit

/-- Has a combination of two sets a name? -/
noncomputable def someF (f : Nm → Bool) (m : Men) : Bool := (candN m []).any f
theorem any_step {α : Type} {f : α → Bool} {l : List α} {i : Nat} {x : α} (h : l[i]? = some x) : (l.drop i).any f = (f x || (l.drop (i + 1)).any f) := by
  obtain ⟨hi, rfl⟩ := List.getElem?_eq_some_iff.1 h
  rw [List.drop_eq_getElem_cons hi, List.any_cons]
theorem candN_len (m : Men) (l : List Nm) : (candN m l).length = m.1.length + m.2.length + 1 := by unfold candN; simp; omega
set_option maxHeartbeats 4000000 in
set_option maxRecDepth 100000 in
theorem refsome_any (how : Int) (c1 c2 : Cls) (cs1 cs2 : List Value) (w : World) (F1 F2 : Nat → Prop) (hr1 : RepC w F1 c1 cs1) (hr2 : RepC w F2 c2 cs2) (hn : numL [c1, c2] < 1000) :
    Calls Tryz.prog 66 #[.int .i64 how, .agg cs1.toArray, .agg cs2.toArray] w fun e w' => e = .returned (.bool (someF (fHow how c1 c2) (addL [c1, c2] ([], [])))) ∧ Below w.heap.size w w' := by
  obtain ⟨f, hf⟩ : ∃ f, fHow how c1 c2 = f := ⟨_, rfl⟩
  obtain ⟨m, hm⟩ : ∃ m, addL [c1, c2] ([], []) = m := ⟨_, rfl⟩
  have hlen := addL_len [c1, c2] ([], [])
  rw [hm] at hlen
  rw [hf, hm]
  obtain ⟨R, hR⟩ : ∃ R, someF f m = R := ⟨_, rfl⟩
  rw [hR]
  have HL : Hid ((candN m []).length < 3000) := Lib.hid (by rw [candN_len]; simp at hlen; omega)
  have hr1' := hr1.here
  have hr2' := hr2.here
  obtain ⟨k1, ns1, nl1, s1, A1, n1, c01, A1', n1', c01', rfl⟩ := hr1.cells
  obtain ⟨k2, ns2, nl2, s2, A2, n2, c02, A2', n2', c02', rfl⟩ := hr2.cells
  have C86 : Hid (∀ a b W, RepC W (· < w.heap.size) c1 _ → RepC W (· < w.heap.size) c2 _ → Calls Tryz.prog 86 #[.int .i64 how, .agg #[.int .i64 k1, .string ns1, .string nl1, .string s1, .slice A1 n1 c01, .slice A1' n1' c01'], .agg #[.int .i64 k2, .string ns2, .string nl2, .string s2, .slice A2 n2 c02, .slice A2' n2' c02'], .agg #[.string a, .string b]] W fun e w' => e = .returned (.bool (f (a, b))) ∧ Below W.heap.size W w') :=
    Lib.hid fun a b W h1 h2 => by rw [← hf]; exact truth_any how a b c1 c2 _ _ W _ _ h1 h2
  have HM0 := Lib.hid hm; have HN := Lib.hid hn
  obtain ⟨L, hLL⟩ : ∃ L, candN m [] = L := ⟨_, rfl⟩
  have HLL := Lib.hid hLL
  have HR0 : Hid (L.any f = R) := Lib.hid (by rw [← hLL]; exact hR)
  rw [hLL] at HL
  clear hf hm hlen hn hr1 hr2 hR hLL
  obtain ⟨w1, hw1, S1, S2, hsz1, hb1⟩ := alloc2_facts w (.cells #[.int .i64 k1, .string ns1, .string nl1, .string s1, .slice A1 n1 c01, .slice A1' n1' c01'] 28) (.cells #[.int .i64 k2, .string ns2, .string nl2, .string s2, .slice A2 n2 c02, .slice A2' n2' c02'] 28)
  obtain ⟨w2, hw2, S4, hsz2, hb2⟩ := alloc_facts w1 (.cells #[.int .i64 k1, .string ns1, .string nl1, .string s1, .slice A1 n1 c01, .slice A1' n1' c01', .int .i64 k2, .string ns2, .string nl2, .string s2, .slice A2 n2 c02, .slice A2' n2' c02'] 28)
  have hb12 := hb1.seq hb2
  have HS1 := Lib.hid (hp_below S1 hb2); have HS2 := Lib.hid (hp_below S2 hb2); have HS4 := Lib.hid S4
  have HR1 := Lib.hid (hr1'.below hb12); have HR2 := Lib.hid (hr2'.below hb12)
  obtain ⟨p0, p1, p2, p3, p4, p5⟩ := blk6 S1
  obtain ⟨q0, q1, q2, q3, q4, q5⟩ := blk6 S2
  have hws : w.heap.size ≤ w1.heap.size := by omega
  clear S1 S2 S4 hr1' hr2'
  go_enter Tryz.func66, Tryz.ntmps66
  go_wp2_with fail
  refine (refcand_any [c1, c2] (some ⟨w1.heap.size, 0, none⟩) 2 2 [] none 0 0 w2 (· < w2.heap.size) (fun _ => False) (RowL.two (HR1.out.wide (fun b h _ => by omega)) (HR2.out.wide (fun b h _ => by omega)) HS4.out hsz2) (RowV.nil _ _ _ _ _) (by omega) (by omega) (by have := HN.out; omega)).mono ?_
  rw [HM0.out, HLL.out]
  rintro e w3 ⟨v, rfl, hov, hb3⟩
  obtain ⟨A, c, rfl, hrow, hcap, hcm⟩ := hov.row nm_len (by decide)
  have HROW := Lib.hid (hrow.here nmV_ne)
  obtain ⟨n, hn⟩ : ∃ n, L.length = n := ⟨_, rfl⟩
  have HNN := Lib.hid hn
  rw [hn] at hcap HROW ⊢
  have hnb : n < 3000 := by have := HL.out; omega
  have hb23 := hb3
  clear hov hrow p0 p1 p2 p3 p4 p5 q0 q1 q2 q3 q4 q5 hn
  go_wp2_with fail
  go_loopw [8] (fun s8 wr => ∃ i : Nat, i ≤ n ∧ s8 = .int .i64 i ∧ Hid ((L.drop i).any f = R) ∧ Below w3.heap.size w3 wr)
    (fun s8 _ => n - (intOf s8).toNat)
  case atStart => exact ⟨0, by omega, rfl, by simpa using HR0, Below.refl _ _⟩
  case round =>
    obtain ⟨i, hi, rfl, HA, hbr⟩ := hrel
    have hb2r := hb23.trans (hbr.mono hb23.size)
    have hszr := hb2r.size
    by_cases hlt : i < n
    · obtain ⟨b', off, a, b, HX, x0, x1, hix⟩ := (HROW.out.below hbr).name hlt c
      have hd : decide (i < n) = true := by simp; omega
      obtain ⟨p0, p1, p2, p3, p4, p5⟩ := blk6 (hp_below HS1.out hb2r)
      obtain ⟨q0, q1, q2, q3, q4, q5⟩ := blk6 (hp_below HS2.out hb2r)
      have HST := Lib.hid (any_step (f := f) HX.out)
      go_wp2_with fail
      have sk0 := Since.cell p0
      have sl0 := Since.cell q0
      have sk1 := Since.cell p1
      have sl1 := Since.cell q1
      have sk2 := Since.cell p2
      have sl2 := Since.cell q2
      have sk3 := Since.cell p3
      have sl3 := Since.cell q3
      have sk4 := Since.cell p4
      have sl4 := Since.cell q4
      have sk5 := Since.cell p5
      have sl5 := Since.cell q5
      have sx0 := Since.cell x0
      have sx1 := Since.cell x1
      have KR : Hid (∀ p : Since wr, RepC p.wld (· < w.heap.size) c1 _ ∧ RepC p.wld (· < w.heap.size) c2 _) := Lib.hid fun p => ⟨(HR1.out.below (hb2r.mono (by omega))).below (p.below.mono (by omega)), (HR2.out.below (hb2r.mono (by omega))).below (p.below.mono (by omega))⟩
      refine wp_region_since (by kernel_rfl) (by kernel_rfl) ?_
      repeat (quiet_step (first
        | (go_at_call_of 86 (Value.int IntKind.i64 how); exact since_of (C86.out a b _ (KR.out _).1 (KR.out _).2))))
      refine wpQuiet_nil ?_
      intro wq hq
      have hbq := since_below hq
      have hbrq := hbr.trans (hbq.mono hbr.size)
      clear hq KR sx0 sx1 x0 x1
      clear sk0 sl0 p0 q0 sk1 sl1 p1 q1 sk2 sl2 p2 q2 sk3 sl3 p3 q3 sk4 sl4 p4 q4 sk5 sl5 p5 q5
      obtain ⟨v, hv⟩ : ∃ v, f (a, b) = v := ⟨_, rfl⟩
      rw [hv]
      have HV := Lib.hid hv
      clear hv
      cases v
      · go_wp2_with fail
        go_roundw
        case rel => exact ⟨i + 1, by omega, by go_num, Lib.hid (by have h := HA.out; rw [HST.out, HV.out] at h; exact h), hbrq⟩
        case measure => simp [intOf]; omega
      · go_wp2_with fail
        go_ret
        exact ⟨ret_bool (by have h := HA.out; rw [HST.out, HV.out] at h; exact h), hb12.trans ((hb3.trans (hbrq.mono hb3.size)).mono (by omega))⟩
    · have hd : decide (i < n) = false := by simp; omega
      have HE : Hid (R = false) := Lib.hid (by have h := HA.out; rw [List.drop_eq_nil_of_le (by have := HNN.out; omega)] at h; rw [← h]; rfl)
      go_wp2_with fail
      go_ret
      exact ⟨ret_bool (by rw [HE.out]), hb12.trans ((hb3.trans (hbr.mono hb3.size)).mono (by omega))⟩
end Go.Proofs.YtfildbkkmnfekaaGreatDoor
