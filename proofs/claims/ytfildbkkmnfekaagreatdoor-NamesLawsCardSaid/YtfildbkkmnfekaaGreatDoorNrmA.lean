/- names.normal with the closure 57. -/
import Derived.Test.YtfildbkkmnfekaaGreatDoorG26
import Derived.WalkKit
import Derived.WalkSpells
import Derived.WalkLawsBesides
import Derived.BigGuardPart
import Derived.Lib.Hide
import Derived.Deep.QuietTactic
import Derived.BigQuiet
import Derived.StillTailTactics
import Derived.Deep.DeepCutAuto
import Derived.Deep.CutBlock
import Derived.Laws.EntriesVeiled
namespace Go.Proofs.YtfildbkkmnfekaaGreatDoor
open Go.RowKit

set_option maxHeartbeats 4000000 in
set_option maxRecDepth 100000 in
theorem normal57_any (g1 g2 h1 : Nat) (p : Ment) (m : Men) (f : Nm → Bool) (w : World) (hM : MapsAt w g1 g2 p) (hT : Tab w) (hL : m.1.length < 1000 ∧ m.2.length < 1000)
    (hk : ∀ W, MapsAt W g1 g2 p → Calls Tryz.prog 76 #[.agg #[.map (some g1), .map (some g2)]] W fun e w' => ∃ A n c v2 mid, e = .returned (.tuple #[.slice A n c, v2]) ∧ RowV w' (fun b => W.heap.size ≤ b ∧ b < mid) 2 nmV m.1 A n ∧ n ≤ c ∧ OwnV w' mid 9 1 strV m.2 v2 ∧ W.heap.size ≤ mid ∧ mid ≤ w'.heap.size ∧ Below W.heap.size W w')
    (ho : ∀ W, MapsAt W g1 g2 p → Tab W → Calls Tryz.prog 77 #[.agg #[.map (some g1), .map (some g2)]] W fun e w' => e = .returned (.string (newS m.2)) ∧ Below W.heap.size W w')
    (hfr : ∀ s W, MapsAt W g1 g2 p → Tab W → Calls Tryz.prog 78 #[.agg #[.map (some g1), .map (some g2)], .string s] W fun e w' => e = .returned (.agg #[.string s, .string (freshN m.1 [] s).2]) ∧ Below W.heap.size W w')
    (hcf : ∀ a b W, Below w.heap.size w W → Calls Tryz.prog 57 #[.agg #[.string a, .string b], .pointer (some ⟨h1, 0, none⟩)] W fun e w' => e = .returned (.bool (f (a, b))) ∧ Below W.heap.size W w') :
    Calls Tryz.prog 56 #[.agg #[.map (some g1), .map (some g2)], .func (.func 57) #[] #[.pointer (some ⟨h1, 0, none⟩)]] w fun e w' => ∃ cs, e = .returned (.tuple #[.agg cs.toArray, .int .i64 (normF chkN f m).2]) ∧
      RepC w' (w.heap.size ≤ ·) (normF chkN f m).1 cs ∧ Below w.heap.size w w' := by
  have HL := Lib.hid hL
  obtain ⟨ns, hns⟩ : ∃ ns, newS m.2 = ns := ⟨_, rfl⟩
  have HNS := Lib.hid hns
  obtain ⟨fl, hfl⟩ : ∃ fl : ByteArray → ByteArray, ∀ a, (freshN m.1 [] a).2 = fl a := ⟨_, fun _ => rfl⟩
  have HFL := Lib.hid hfl
  have C77 : Hid (∀ W, MapsAt W g1 g2 p → Tab W → Calls Tryz.prog 77 #[.agg #[.map (some g1), .map (some g2)]] W fun e w' => e = .returned (.string ns) ∧ Below W.heap.size W w') := Lib.hid (by rw [← hns]; exact ho)
  have C78 : Hid (∀ s W, MapsAt W g1 g2 p → Tab W → Calls Tryz.prog 78 #[.agg #[.map (some g1), .map (some g2)], .string s] W fun e w' => e = .returned (.agg #[.string s, .string (fl s)]) ∧ Below W.heap.size W w') := Lib.hid (fun s => by rw [← hfl]; exact hfr s)
  have C76 := Lib.hid hk
  have CF := Lib.hid hcf
  obtain ⟨w2, hw2, S1, S3, hsz2, hb12⟩ := alloc2_facts w (.cells #[.map (some g1), .map (some g2)] 66) (.cells #[.int .i64 0, .string ⟨#[]⟩, .string ⟨#[]⟩, .string ⟨#[]⟩, .slice none 0 0, .slice none 0 0] 28)
  have HM := Lib.hid (MapsAt.below hM hb12); have HT := Lib.hid (hT.below hb12)
  have HS1 := Lib.hid S1; have HS3 := Lib.hid S3
  have hws : w.heap.size ≤ w2.heap.size := by omega
  obtain ⟨a0, a1⟩ := blk2 S1
  clear S1 S3 hM hT hL hns hfl hk ho hfr hcf
  go_enter Tryz.func56, Tryz.ntmps56
  go_wp2_with fail
  have sa0 := Since.cell a0
  have sa1 := Since.cell a1
  have KM : Hid (∀ q : Since w2, MapsAt q.wld g1 g2 p ∧ Tab q.wld) := Lib.hid fun q => ⟨MapsAt.below HM.out q.below, HT.out.below q.below⟩
  have KR : Hid (∀ q : Since w2, Below w.heap.size w q.wld) := Lib.hid fun q => hb12.trans (q.below.mono hws)
  refine wp_region_since (by kernel_rfl) (by kernel_rfl) ?_
  repeat (quiet_step (first
    | (go_at_call 77; exact since_of (C77.out _ (KM.out _).1 (KM.out _).2))
    | (go_at_call 78; exact since_of (C78.out ns _ (KM.out _).1 (KM.out _).2))
    | (go_at_call 57; exact since_of (CF.out ns (fl ns) _ (KR.out _)))))
  refine wpQuiet_nil ?_
  intro wk0 hq
  have hbk0 := since_below hq
  clear hq KM KR sa0 sa1 a0 a1
  obtain ⟨a0, a1⟩ := blk2 (hp_below HS1.out hbk0)
  obtain ⟨wide, hwide⟩ : ∃ wide, f (ns, fl ns) = wide := ⟨_, rfl⟩
  rw [hwide]
  have HWI := Lib.hid hwide
  have hsk0 := hbk0.size
  clear hwide hw2
  go_wp2_with fail
  refine (C76.out wk0 (MapsAt.below HM.out hbk0)).mono ?_
  rintro e wq ⟨E1, j1, d1, v2, mid, rfl, hr1, hd1, hov, hmid1, hmid2, hbq0⟩
  obtain ⟨E2, d2, rfl, hr2, hd2, hm2⟩ := OwnV.row hov str_len (by decide)
  obtain ⟨j2, hj2e⟩ : ∃ n, m.2.length = n := ⟨_, rfl⟩
  rw [hj2e] at hr2 hd2 ⊢
  have HJ2 := Lib.hid hj2e
  have HR1 := Lib.hid (hr1.here nmV_ne)
  have HR2 := Lib.hid (hr2.here strV_ne)
  have HJ1 := Lib.hid hr1.len
  have hj1b : j1 < 1000 := by have := hr1.len; have := HL.out; omega
  have hj2b : j2 < 1000 := by have := HL.out; omega
  have hbq : Below w2.heap.size w2 wq := hbk0.seq hbq0
  have hs2q := hbq.size
  have HMQ := Lib.hid (MapsAt.below HM.out hbq); have HTQ := Lib.hid (HT.out.below hbq)
  have HSQ := Lib.hid (hp_below HS1.out hbq)
  clear hr1 hr2 hov hj2e a0 a1 hm2 hmid1 hmid2 hsk0 hbk0 hbq0
  go_wp2_with fail
  go_loopw [9, 31] (fun s9 s31 wr => ∃ i : Nat, i ≤ j2 ∧ s31 = .int .i64 i ∧ OwnC wr wq.heap.size (oddL f m.1 wide (m.2.take i)) s9 ∧ Below wq.heap.size wq wr)
    (fun _ s31 _ => j2 - (intOf s31).toNat)
  case atStart => exact ⟨0, by omega, rfl, OwnD.nil _ _ _ _, Below.refl _ _⟩
  case round =>
    obtain ⟨i, hi, rfl, hodd, hbr⟩ := hrel
    obtain ⟨wo, rfl⟩ : ∃ wo : World, wo = wr := ⟨_, rfl⟩
    have HODD := Lib.hid hodd
    have hszr := hbr.size
    have hb2r := hbq.trans (hbr.mono hs2q)
    have HMR := Lib.hid (MapsAt.below HMQ.out hbr); have HTR := Lib.hid (HTQ.out.below hbr)
    have HSR := Lib.hid (hp_below HSQ.out hbr)
    clear hodd
    by_cases hlt : i < j2
    · obtain ⟨b', off, s, HX, x0, hix⟩ := (HR2.out.below hbr).str hlt d2
      have hd : decide (i < j2) = true := by simp; omega
      obtain ⟨a0, a1⟩ := blk2 HSR.out
      go_wp2_with fail
      refine (C78.out s wo HMR.out HTR.out).mono ?_
      rintro e wr1 ⟨rfl, hbr1⟩
      have hsr1 := hbr1.size
      go_wp2_with fail
      refine (CF.out s (fl s) wr1 ((hb12.trans (hb2r.mono hws)).trans (hbr1.mono (by omega)))).mono ?_
      rintro e wr2 ⟨rfl, hbr20⟩
      have hbr2 : Below wo.heap.size wo wr2 := hbr1.seq hbr20
      obtain ⟨full, hfull⟩ : ∃ full, f (s, fl s) = full := ⟨_, rfl⟩
      rw [hfull]
      have HFU := Lib.hid hfull
      clear hfull a0 a1 x0 hix
      have hs22 := hbr2.size
      have hb2r2 := hb2r.trans (hbr2.mono (by have := hb2r.size; omega))
      have HODD2 := Lib.hid (HODD.out.keep hbr2)
      have HR12 := Lib.hid (HR1.out.below (hbr.trans (hbr2.mono hszr)))
      go_wp2_with fail
      go_loopw [13, 42] (fun s13 s42 wk => ∃ k : Nat, k ≤ j1 ∧ s42 = .int .i64 k ∧ OwnC wk wr2.heap.size (sglL f s full (m.1.take k)) s13 ∧ Below wr2.heap.size wr2 wk)
        (fun _ s42 _ => j1 - (intOf s42).toNat)
      case atStart => exact ⟨0, by omega, rfl, OwnD.nil _ _ _ _, Below.refl _ _⟩
      case round =>
        obtain ⟨k, hk, rfl, hsgl, hbk⟩ := hrel
        have HSGL := Lib.hid hsgl
        have hszk := hbk.size
        have hb2k := hb2r2.trans (hbk.mono (by have := hb2r2.size; omega))
        have HR1k := Lib.hid (HR12.out.below (hbk.mono (by omega)))
        clear hsgl
        by_cases hlt2 : k < j1
        · obtain ⟨b'', off'', a, b, HXk, z0, z1, hixk⟩ := HR1k.out.name hlt2 d1
          have hd2' : decide (k < j1) = true := by simp; omega
          obtain ⟨w5, hw5, S5, hsz5, hb5⟩ := alloc_facts wr (.cells #[.string a, .string b] 24)
          have hb25 := hb2k.trans (hb5.mono (by have := hb2k.size; omega))
          obtain ⟨r0, r1⟩ := blk2 S5
          have HS5 := Lib.hid S5
          clear S5
          obtain ⟨v, hv⟩ : ∃ v, f (a, b) = v := ⟨_, rfl⟩
          have HV := Lib.hid hv
          have HSN := Lib.hid (sglL_snoc (f := f) (s := s) (full := full) HXk.out)
          have HB5 := Lib.hid (hb12.trans (hb25.mono hws))
          have hgk : wr2.heap.size ≤ w5.heap.size := by omega
          cases hq : eqS a s
          · have HQ := Lib.hid hq
            have e3 := (eqS_def a s).trans hq
            clear hq hv
            go_wp2_with fail
            go_roundw
            case rel => exact ⟨k + 1, by omega, by go_num, by rw [HSN.out, HQ.out]; simpa using HSGL.out.keep hb5, hbk.trans (hb5.mono hbk.size)⟩
            case measure => simp [intOf]; omega
          · have HQ := Lib.hid hq
            have e3 := (eqS_def a s).trans hq
            clear hq hv
            go_wp2_with fail
            refine (CF.out a b w5 HB5.out).mono ?_
            rw [HV.out]
            rintro e w6 ⟨rfl, hb6⟩
            obtain ⟨r0', r1'⟩ := blk2 (hp_below HS5.out hb6)
            clear r0 r1
            have hbk6 := hbk.trans ((hb5.seq hb6).mono hbk.size)
            have HO6 := Lib.hid ((HSGL.out.keep hb5).keep hb6)
            have hgk6 := hbk6.size
            obtain ⟨w7, hw7, S7, hsz7, hb7⟩ := alloc_facts w6 (.cells #[.int .i64 1, .string a, .string b, .string ⟨#[]⟩, .slice none 0 0, .slice none 0 0] 28)
            have HO7 := Lib.hid (HO6.out.keep hb7)
            have hlb := sglL_len f s full (m.1.take k)
            have hlb2 : (sglL f s full (m.1.take k)).length + 1 < 4000000 := by rw [List.length_take] at hlb; omega
            have HS7 := Lib.hid S7; have HLB := Lib.hid hlb2
            clear hlb hlb2 S7
            cases v
            all_goals
              cases full
            · go_wp2_with fail
              go_roundw
              case rel => exact ⟨k + 1, by omega, by go_num, by rw [HSN.out, HQ.out, HV.out]; simpa using HO6.out, hbk6⟩
              case measure => simp [intOf]; omega
            rotate_right 1
            · go_wp2_with fail
              go_roundw
              case rel => exact ⟨k + 1, by omega, by go_num, by rw [HSN.out, HQ.out, HV.out]; simpa using HO6.out, hbk6⟩
              case measure => simp [intOf]; omega
            all_goals
              go_wp2_with (first
                | (at_builtin; refine wpList_ownC1 rfl (.tmp 57) (.tmp 60) rfl wr2.heap.size _ (nmC (a, b)) _ u13 rfl HO7.out w6.heap.size 1 rfl HS7.out (nmC_rep (a, b) _ _ none none 0 0) HLB.out (by omega) ?_
                   intro v8 w8 ho8 hb8
                   have hbk8 := (hbk6.trans (hb7.mono (by omega))).trans hb8)
                | fail)
              go_roundw
              case rel => exact ⟨k + 1, by omega, by go_num, by rw [HSN.out, HQ.out, HV.out]; exact ho8, hbk8⟩
              case measure => simp [intOf]; omega
        · have hd2' : decide (k < j1) = false := by simp; omega
          have htk : m.1.take k = m.1 := List.take_of_length_le (by have h1 := HJ1.out; omega)
          obtain ⟨S, hS⟩ : ∃ S, sglL f s full m.1 = S := ⟨_, rfl⟩
          have HO : Hid (OwnC wr wr2.heap.size S u13) := Lib.hid (by rw [← hS, ← htk]; exact HSGL.out)
          have HLF : Hid (∀ c ∈ S, ∀ (F G : Nat → Prop) cs, RepC wr F c cs → RepC wr G c cs) := Lib.hid (by rw [← hS]; exact sgl_leaf)
          have hfr : f (freshN m.1 [] s) = full := by rw [show freshN m.1 [] s = (s, fl s) by rw [← HFL.out s]; rfl]; exact HFU.out
          have HOS1 : Hid (full = wide → oddL f m.1 wide (m.2.take (i + 1)) = oddL f m.1 wide (m.2.take i) ++ S) := Lib.hid fun e => by rw [oddL_snoc HX.out, oddS_eq hfr e, hS]
          have HOS2 : Hid (full ≠ wide → oddL f m.1 wide (m.2.take (i + 1)) = oddL f m.1 wide (m.2.take i) ++ [spC s S]) := Lib.hid fun e => by rw [oddL_snoc HX.out, oddS_ne hfr e, hS]
          have HB : Hid ((oddL f m.1 wide (m.2.take i)).length + S.length < 4000000 ∧ (oddL f m.1 wide (m.2.take i)).length + 1 < 4000000 ∧ S.length < 1000) := Lib.hid (by
            have h1 := oddL_len f m.1 wide (m.2.take i)
            have h2 := sglL_len f s full m.1
            have h3 := HL.out
            have h4 : (m.2.take i).length * (m.1.length + 1) ≤ 1000 * 1000 := Nat.mul_le_mul (by rw [List.length_take]; omega) (by omega)
            rw [hS] at h2
            omega)
          have HODDk := Lib.hid (HODD2.out.keep hbk)
          have hSEP := OwnC.sep HODD2.out (Nat.le_refl _)
          have HSEP := Lib.hid hSEP
          have hboK := hbr.trans ((hbr2.trans (hbk.mono hs22)).mono hszr)
          clear htk hS hfr hSEP
          by_cases hfw : full = wide
          · subst hfw
            have HOS := Lib.hid (HOS1.out rfl)
            cases full
            all_goals
              go_wp2_with (first
                | (at_builtin; refine wpList_ownCs rfl (.tmp 66) (.tmp 67) rfl wq.heap.size wr2.heap.size _ S u9 u13 rfl HODDk.out rfl HO.out HLF.out HB.out.1 (by omega) ?_
                   intro v8 w8 ho8 hb8
                   have hbk8 := hboK.trans hb8)
                | fail)
              go_roundw
              case rel => exact ⟨i + 1, by omega, by go_num, by rw [HOS.out]; exact ho8, hbk8⟩
              case measure => simp [intOf]; omega
          · have HOS := Lib.hid (HOS2.out hfw)
            have hfb : (full == wide) = false := by simpa using hfw
            obtain ⟨A, c, rfl, hrow, hcap, hcm⟩ := OwnC.leaves HO.out HLF.out
            have HROW := Lib.hid hrow
            obtain ⟨nS, hnS⟩ : ∃ n, S.length = n := ⟨_, rfl⟩
            have HNS := Lib.hid hnS
            rw [hnS] at hcap HROW ⊢
            have hnb : nS < 1000 := by have := HB.out; omega
            obtain ⟨wa, w5, hwa, hw5, Sa, S5, hsz5, hb5⟩ := alloc_spN wr (.int .i64 2) (.string ⟨#[]⟩) (.string ⟨#[]⟩) (.string s)
            obtain ⟨x0, x1, x2, x3, x4, x5⟩ := blk6 Sa
            obtain ⟨z0, z1, z2, z3, z4, z5⟩ := frz6 Sa
            clear Sa x0 x1 x2 x3 z0 z1 z2 z3
            have hbo5 := hboK.trans (hb5.mono (by omega))
            have HO5 := Lib.hid (HODDk.out.keep hb5)
            obtain ⟨y0, y1, y2, y3, y4, y5⟩ := blk6 S5
            have HS5 := Lib.hid S5
            clear S5 hrow hnS hfw
            by_cases hn0 : nS = 0
            · subst hn0
              have hSn : S = [] := List.eq_nil_of_length_eq_zero HNS.out
              have HSP : Hid (spC s S = .mk 2 ⟨#[]⟩ ⟨#[]⟩ s [] []) := Lib.hid (by rw [hSn]; rfl)
              obtain ⟨w6, hw6, S6, hsz6, hb6⟩ := alloc_facts w5 (.cells #[.int .i64 2, .string ⟨#[]⟩, .string ⟨#[]⟩, .string s, .slice none 0 0, .slice none 0 0] 28)
              have HO6 := Lib.hid (HO5.out.keep hb6)
              have hbo6 := hbo5.trans (hb6.mono (by omega))
              have HS6 := Lib.hid S6
              clear S6 hSn
              go_wp2_with (first
                | (at_builtin; refine wpList_ownC1 rfl (.tmp 78) (.tmp 80) rfl wq.heap.size _ (spC s S) _ u9 rfl HO6.out w5.heap.size 1 rfl HS6.out (by rw [HSP.out]; exact RepC.mk' (RowL.nil _ _ _) (RowL.nil _ _ _) (by omega) (by omega)) HB.out.2.1 (by omega) ?_
                   intro v8 w8 ho8 hb8
                   have hbk8 := hbo6.trans hb8)
                | fail)
              all_goals
                go_roundw
                case rel => exact ⟨i + 1, by omega, by go_num, by rw [HOS.out]; exact ho8, hbk8⟩
                case measure => simp [intOf]; omega
            · have hdn : decide (0 < nS) = true := by simp; omega
              go_wp2_with fail
              refine (tog85_any S A nS c w5 _ (HROW.out.keepF hb5) (by omega)).mono ?_
              rintro e w6 ⟨cs', rfl, hrep6, hb6⟩
              have hbo6 := hbo5.trans (hb6.mono (by omega))
              have HO6 := Lib.hid (HO5.out.keep hb6)
              have hsz6 := hb6.size
              have hrc := hrep6 _ (HROW.out.keepF hb5)
              obtain ⟨k3, ns3, nl3, s3, A3, n3, c03, A3', n3', c03', rfl⟩ := hrc.cells
              have HRC := Lib.hid hrc
              have hS6 := hp_below HS5.out hb6
              obtain ⟨w7, hw7, S7, hsz7, hb7⟩ := alloc_facts w6 (.cells #[.int .i64 k3, .string ns3, .string nl3, .string s3, .slice A3 n3 c03, .slice A3' n3' c03'] 28)
              have hS7 := hp_below hS6 hb7
              have HRC7 := Lib.hid (HRC.out.keepF hb7)
              obtain ⟨w8, hw8⟩ : ∃ w8, w7.setCell ⟨wr.heap.size, 4, none⟩ (.slice (some ⟨w6.heap.size, 0, none⟩) 1 1) = w8 := ⟨_, rfl⟩
              have hS8 : w8.heap[wr.heap.size]? = some (.cells #[.int .i64 2, .string ⟨#[]⟩, .string ⟨#[]⟩, .string s, .slice (some ⟨w6.heap.size, 0, none⟩) 1 1, .slice none 0 0] 28) := by rw [← hw8, hp_set hS7]; rfl
              have hT8 : w8.heap[w6.heap.size]? = some (.cells #[.int .i64 k3, .string ns3, .string nl3, .string s3, .slice A3 n3 c03, .slice A3' n3' c03'] 28) := by rw [← hw8, hp_far (by omega) S7]
              have hb78 : Below wr.heap.size w7 w8 := by rw [← hw8]; exact (Below.refl _ _).setCell (p := ⟨wr.heap.size, 4, none⟩) (Nat.le_refl _) _
              have hb58 : Below wr.heap.size w5 w8 := (((hb6.seq hb7).mono (by omega)).trans hb78)
              have hlt8 : w7.heap.size = w8.heap.size := by rw [← hw8]; simp [World.setCell]
              have hlt57 := hb7.size
              have HX8 : Hid (RepC w8 (fun b => (wr2.heap.size ≤ b ∧ b < wr.heap.size)) (togC S) [.int .i64 k3, .string ns3, .string nl3, .string s3, .slice A3 n3 c03, .slice A3' n3' c03']) := Lib.hid (RepC.keep (fun b hb _ => ⟨hb, hb78.block b hb.2⟩) _ _ HRC7.out)
              have HO8 : Hid (OwnC w8 wq.heap.size (oddL f m.1 wide (m.2.take i)) u9) := Lib.hid (HODDk.out.keep (hb5.trans hb58))
              have HREP : Hid (RepC w8 (fun b => wr2.heap.size ≤ b ∧ b < w8.heap.size) (spC s S) [.int .i64 2, .string ⟨#[]⟩, .string ⟨#[]⟩, .string s, .slice (some ⟨w6.heap.size, 0, none⟩) 1 1, .slice none 0 0]) := Lib.hid (by
                rw [spC_ne (by intro e; have h := HNS.out; rw [e] at h; exact hn0 h.symm)]
                exact RepC.mk' (RowL.one (HX8.out.wide (fun b hb _ => ⟨hb.1, by omega⟩)) hT8 ⟨by omega, by omega⟩) (RowL.nil _ _ _) (by omega) (by omega))
              obtain ⟨w9, hw9, S9, hsz9, hb9⟩ := alloc_facts w8 (.cells #[.int .i64 2, .string ⟨#[]⟩, .string ⟨#[]⟩, .string s, .slice (some ⟨w6.heap.size, 0, none⟩) 1 1, .slice none 0 0] 28)
              have HO9 := Lib.hid (HO8.out.keep hb9)
              have HREP9 : Hid (RepC w9 (fun b => wq.heap.size ≤ b ∧ b < w9.heap.size ∧ some b ≠ u9.ownBlock) (spC s S) _) := Lib.hid (RepC.keep (fun b hb hl => ⟨⟨by omega, by omega, HSEP.out b hb.1⟩, hb9.block b hl⟩) _ _ HREP.out)
              have HS9 := Lib.hid S9
              have hbo9 : Below wq.heap.size wq w9 := (hbo5.trans (hb58.mono (by omega))).trans (hb9.mono (by omega))
              clear y0 y1 y2 y3 y4 y5
              obtain ⟨y0, y1, y2, y3, y4, y5⟩ := blk6 hS7
              obtain ⟨-, -, -, -, z6, -⟩ := frz6 hS7
              obtain ⟨x6, x7, x8, x9, x10, x11⟩ := blk6 hS8
              clear hS6 hS7 hS8 hT8 S7 S9 hrc hrep6
              go_wp2_with (first
                | (at_builtin; refine wpList_ownC1 rfl (.tmp 78) (.tmp 80) rfl wq.heap.size _ (spC s S) _ u9 rfl HO9.out w8.heap.size 1 rfl HS9.out HREP9.out HB.out.2.1 (by omega) ?_
                   intro v10 w10 ho10 hb10
                   have hbk10 := hbo9.trans hb10)
                | fail)
              go_roundw
              case rel => exact ⟨i + 1, by omega, by go_num, by rw [HOS.out]; exact ho10, hbk10⟩
              case measure => simp [intOf]; omega
    · have hd : decide (i < j2) = false := by simp; omega
      have htk : m.2.take i = m.2 := List.take_of_length_le (by have h1 := HJ2.out; omega)
      obtain ⟨O, hO⟩ : ∃ O, oddL f m.1 wide m.2 = O := ⟨_, rfl⟩
      have HO : Hid (OwnC wo wq.heap.size O u9) := Lib.hid (by rw [← hO, ← htk]; exact HODD.out)
      have HB : Hid (O.length < 2000000) := Lib.hid (by
        have h1 := oddL_len f m.1 wide m.2
        have h3 := HL.out
        have h4 : m.2.length * (m.1.length + 1) ≤ 1000 * 1000 := Nat.mul_le_mul (by omega) (by omega)
        rw [hO] at h1
        omega)
      have hwd : f (freshN m.1 [] (newS m.2)) = wide := by rw [HNS.out, show freshN m.1 [] ns = (ns, fl ns) by rw [← HFL.out ns]; rfl]; exact HWI.out
      have HOU : Hid (outC (f (freshN m.1 [] (newS m.2))) (oddL f m.1 (f (freshN m.1 [] (newS m.2))) m.2) = outC wide O) := Lib.hid (by rw [hwd, hO])
      obtain ⟨A, c, rfl, hrow, hcap, hcm⟩ := OwnC.rowL HO.out (F := fun b => wq.heap.size ≤ b) (fun b hb _ => hb)
      have HROW := Lib.hid hrow
      obtain ⟨nO, hnO⟩ : ∃ n, O.length = n := ⟨_, rfl⟩
      have HNO := Lib.hid hnO
      rw [hnO] at hcap HROW ⊢
      have hnb : nO < 2000000 := by have := HB.out; omega
      clear hrow hnO htk hO hwd
      have HFO : Hid (∀ b, wq.heap.size ≤ b → w.heap.size + 1 < b) := Lib.hid fun b hb => by omega
      have hboo : Below w2.heap.size w2 wo := hb2r
      have H3 : Hid (∀ W : World, ∀ F : Nat → Prop, RepC W F (anyC []) [.int .i64 3, .string ⟨#[]⟩, .string ⟨#[]⟩, .string ⟨#[]⟩, .slice none 0 0, .slice none 0 0]) := Lib.hid fun W F => RepC.mk' (RowL.nil _ _ _) (RowL.nil _ _ _) (by omega) (by omega)
      cases wide
      · by_cases hn0 : nO = 0
        · subst hn0
          have hOn : O = [] := List.eq_nil_of_length_eq_zero HNO.out
          have HOUT := HOU.out
          rw [hOn] at HOUT
          obtain ⟨W, hW, T1, T2, hszW, hbW0⟩ := alloc2_facts wo (.cells #[.int .i64 3, .string ⟨#[]⟩, .string ⟨#[]⟩, .string ⟨#[]⟩, .slice (some ⟨wo.heap.size + 1, 0, none⟩) 1 1, .slice none 0 0] 28) (.cells #[.int .i64 3, .string ⟨#[]⟩, .string ⟨#[]⟩, .string ⟨#[]⟩, .slice none 0 0, .slice none 0 0] 28)
          have hbW := hboo.trans (hbW0.mono (by omega))
          have HRO : Hid (RepC W (fun b => wq.heap.size ≤ b) (anyC [anyC []]) _) := Lib.hid (RepC.mk' (A := some ⟨wo.heap.size + 1, 0, none⟩) (n := 1) (c := 1) (A' := none) (c' := 0) (RowL.one (H3.out W _) T2 (by omega)) (RowL.nil _ _ _) (by omega) (by omega))
          have HSO := Lib.hid T1
          have HOUT : Hid (_ = anyC [anyC []]) := Lib.hid HOUT
          obtain ⟨o0, o1, o2, o3, o4, o5⟩ := blk6 T1
          clear T1 T2 hOn
          go_wp2_with fail
          clear o0 o1 o2 o3 o4 o5
          obtain ⟨ev, hev⟩ : ∃ ev, chkN (anyC [anyC []]) = ev := ⟨_, rfl⟩
          have HEV := Lib.hid hev
          clear hev
          refine (check_val (anyC [anyC []]) _ W _ HRO.out HEV.out).mono ?_
          rintro e wz ⟨rfl, hbz⟩
          have hb2z := hbW.trans (hbz.mono hbW.size)
          have SR := hp_below HS3.out hb2z
          have SO := hp_below HSO.out hbz
          obtain ⟨o0, o1, o2, o3, o4, o5⟩ := blk6 SO
          obtain ⟨t0, t1, t2, t3, t4, t5⟩ := blk6 SR
          obtain ⟨f0, f1, f2, f3, f4, f5⟩ := frz6 SR
          by_cases hz : ev = 0
          · subst hz
            have HNF : Hid (normF chkN f m = ((anyC [anyC []]), 0)) := Lib.hid (by unfold normF; rw [HOUT.out, if_pos HEV.out])
            obtain ⟨wf, hwf, Sf, Hf, Kf, Zf⟩ := set6_facts (.int .i64 3) (.string ⟨#[]⟩) (.string ⟨#[]⟩) (.string ⟨#[]⟩) (.slice (some ⟨wo.heap.size + 1, 0, none⟩) 1 1) (.slice none 0 0) SR
            have hbf : Below w.heap.size w wf := Hf (hb12.trans (hb2z.mono (by omega))) (by omega)
            have HRF : Hid (RepC wf (fun b => w.heap.size ≤ b) (anyC [anyC []]) [.int .i64 3, .string ⟨#[]⟩, .string ⟨#[]⟩, .string ⟨#[]⟩, .slice (some ⟨wo.heap.size + 1, 0, none⟩) 1 1, .slice none 0 0]) := Lib.hid (RepC.keep (fun b hb hl => ⟨by have := HFO.out b hb; omega, Kf b (by have := HFO.out b hb; omega)⟩) _ _ (RepC.keep (fun b hb hl => ⟨hb, hbz.block b hl⟩) _ _ HRO.out))
            obtain ⟨g0, g1, g2, g3, g4, g5⟩ := blk6 Sf
            clear Sf SO SR Hf Kf Zf
            have hcc : ((0 : Int) != 0) = false := rfl
            go_wp2_with fail
            (try simp only [Exit.inBlock, Exit.then])
            refine bodyPost_ret (v := .tuple #[.agg #[.int .i64 3, .string ⟨#[]⟩, .string ⟨#[]⟩, .string ⟨#[]⟩, .slice (some ⟨wo.heap.size + 1, 0, none⟩) 1 1, .slice none 0 0], .int .i64 0]) (by simp [results, Tryz.results56, go_sem, g0, g1, g2, g3, g4, g5]) rfl ?_
            refine ⟨[.int .i64 3, .string ⟨#[]⟩, .string ⟨#[]⟩, .string ⟨#[]⟩, .slice (some ⟨wo.heap.size + 1, 0, none⟩) 1 1, .slice none 0 0], ?_, ?_, hbf⟩
            · rw [HNF.out]
            · rw [HNF.out]; exact HRF.out
          · have hcc : (ev != 0) = true := by simpa using hz
            have HNF : Hid (normF chkN f m = (zeroC, 3)) := Lib.hid (by unfold normF; rw [HOUT.out, HEV.out, if_neg hz])
            obtain ⟨wf, hwf, Sf, Hf, Kf, Zf⟩ := set6_facts (.int .i64 0) (.string ⟨#[]⟩) (.string ⟨#[]⟩) (.string ⟨#[]⟩) (.slice none 0 0) (.slice none 0 0) SR
            have hbf : Below w.heap.size w wf := Hf (hb12.trans (hb2z.mono (by omega))) (by omega)
            obtain ⟨g0, g1, g2, g3, g4, g5⟩ := blk6 Sf
            clear Sf SO SR hz Hf Kf Zf
            go_wp2_with fail
            (try simp only [Exit.inBlock, Exit.then])
            refine bodyPost_ret (v := .tuple #[.agg #[.int .i64 0, .string ⟨#[]⟩, .string ⟨#[]⟩, .string ⟨#[]⟩, .slice none 0 0, .slice none 0 0], .int .i64 3]) (by simp [results, Tryz.results56, go_sem, g0, g1, g2, g3, g4, g5]) rfl ?_
            refine ⟨[.int .i64 0, .string ⟨#[]⟩, .string ⟨#[]⟩, .string ⟨#[]⟩, .slice none 0 0, .slice none 0 0], ?_, ?_, hbf⟩
            · rw [HNF.out]
            · rw [HNF.out]; exact RepC.mk' (RowL.nil _ _ _) (RowL.nil _ _ _) (by omega) (by omega)

        · have hdn : decide (0 < nO) = true := by simp; omega
          have HOUT : Hid (_ = togC O) := Lib.hid (HOU.out.trans (by cases O with | nil => exact absurd HNO.out.symm hn0 | cons x l => rfl))
          go_wp2_with fail
          obtain ⟨W1, hW1, T1, hszW1, hbW1⟩ := alloc_facts wo (.cells #[.int .i64 3, .string ⟨#[]⟩, .string ⟨#[]⟩, .string ⟨#[]⟩, .slice none 0 0, .slice none 0 0] 28)
          rw [hW1]
          refine (tog85_any O A nO c W1 _ (HROW.out.keepF hbW1) (by omega)).mono ?_
          rintro e W2 ⟨cs', rfl, hrep6, hbW2⟩
          have hrc := hrep6 _ (HROW.out.keepF hbW1)
          obtain ⟨k3, ns3, nl3, s3, A3, n3, c03, A3', n3', c03', rfl⟩ := hrc.cells
          have T2 := hp_below T1 hbW2
          obtain ⟨o0, o1, o2, o3, o4, o5⟩ := blk6 T2
          obtain ⟨f0, f1, f2, f3, f4, f5⟩ := frz6 T2
          obtain ⟨W, hW, T3, HfW, KfW, ZfW⟩ := set6_facts (.int .i64 k3) (.string ns3) (.string nl3) (.string s3) (.slice A3 n3 c03) (.slice A3' n3' c03') T2
          have hbW : Below w2.heap.size w2 W := HfW ((hboo.trans (hbW1.mono (by omega))).trans (hbW2.mono (by omega))) (by omega)
          have HRO : Hid (RepC W (fun b => wq.heap.size ≤ b) (togC O) _) := Lib.hid (RepC.keep (w := W2) (F := fun b => wq.heap.size ≤ b ∧ b ≠ wo.heap.size) (fun b hb hl => ⟨hb.1, KfW b hb.2⟩) _ _ (hrep6 _ (RowL.keepF (w := wo) ⟨HROW.out.1, fun hp => by
            obtain ⟨b, off, hA, hb, hr⟩ := HROW.out.2 hp
            have hlt := RepR.lt' O b off (by intro e; rw [e] at hp; simp at hp) hr
            exact ⟨b, off, hA, ⟨hb, by omega⟩, RepR.keep (fun b hb hl => ⟨⟨hb, by omega⟩, rfl⟩) O b off rfl hr⟩⟩ hbW1)))
          have HSO := Lib.hid T3
          obtain ⟨v0, v1, v2, v3, v4, v5⟩ := blk6 T3
          clear T1 T2 T3 HfW KfW ZfW hrep6 hrc
          go_wp2_with fail
          clear o0 o1 o2 o3 o4 o5 f0 f1 f2 f3 f4 f5 v0 v1 v2 v3 v4 v5
          obtain ⟨ev, hev⟩ : ∃ ev, chkN (togC O) = ev := ⟨_, rfl⟩
          have HEV := Lib.hid hev
          clear hev
          refine (check_val (togC O) _ W _ HRO.out HEV.out).mono ?_
          rintro e wz ⟨rfl, hbz⟩
          have hb2z := hbW.trans (hbz.mono hbW.size)
          have SR := hp_below HS3.out hb2z
          have SO := hp_below HSO.out hbz
          obtain ⟨o0, o1, o2, o3, o4, o5⟩ := blk6 SO
          obtain ⟨t0, t1, t2, t3, t4, t5⟩ := blk6 SR
          obtain ⟨f0, f1, f2, f3, f4, f5⟩ := frz6 SR
          by_cases hz : ev = 0
          · subst hz
            have HNF : Hid (normF chkN f m = ((togC O), 0)) := Lib.hid (by unfold normF; rw [HOUT.out, if_pos HEV.out])
            obtain ⟨wf, hwf, Sf, Hf, Kf, Zf⟩ := set6_facts (.int .i64 k3) (.string ns3) (.string nl3) (.string s3) (.slice A3 n3 c03) (.slice A3' n3' c03') SR
            have hbf : Below w.heap.size w wf := Hf (hb12.trans (hb2z.mono (by omega))) (by omega)
            have HRF : Hid (RepC wf (fun b => w.heap.size ≤ b) (togC O) [.int .i64 k3, .string ns3, .string nl3, .string s3, .slice A3 n3 c03, .slice A3' n3' c03']) := Lib.hid (RepC.keep (fun b hb hl => ⟨by have := HFO.out b hb; omega, Kf b (by have := HFO.out b hb; omega)⟩) _ _ (RepC.keep (fun b hb hl => ⟨hb, hbz.block b hl⟩) _ _ HRO.out))
            obtain ⟨g0, g1, g2, g3, g4, g5⟩ := blk6 Sf
            clear Sf SO SR Hf Kf Zf
            have hcc : ((0 : Int) != 0) = false := rfl
            go_wp2_with fail
            (try simp only [Exit.inBlock, Exit.then])
            refine bodyPost_ret (v := .tuple #[.agg #[.int .i64 k3, .string ns3, .string nl3, .string s3, .slice A3 n3 c03, .slice A3' n3' c03'], .int .i64 0]) (by simp [results, Tryz.results56, go_sem, g0, g1, g2, g3, g4, g5]) rfl ?_
            refine ⟨[.int .i64 k3, .string ns3, .string nl3, .string s3, .slice A3 n3 c03, .slice A3' n3' c03'], ?_, ?_, hbf⟩
            · rw [HNF.out]
            · rw [HNF.out]; exact HRF.out
          · have hcc : (ev != 0) = true := by simpa using hz
            have HNF : Hid (normF chkN f m = (zeroC, 3)) := Lib.hid (by unfold normF; rw [HOUT.out, HEV.out, if_neg hz])
            obtain ⟨wf, hwf, Sf, Hf, Kf, Zf⟩ := set6_facts (.int .i64 0) (.string ⟨#[]⟩) (.string ⟨#[]⟩) (.string ⟨#[]⟩) (.slice none 0 0) (.slice none 0 0) SR
            have hbf : Below w.heap.size w wf := Hf (hb12.trans (hb2z.mono (by omega))) (by omega)
            obtain ⟨g0, g1, g2, g3, g4, g5⟩ := blk6 Sf
            clear Sf SO SR hz Hf Kf Zf
            go_wp2_with fail
            (try simp only [Exit.inBlock, Exit.then])
            refine bodyPost_ret (v := .tuple #[.agg #[.int .i64 0, .string ⟨#[]⟩, .string ⟨#[]⟩, .string ⟨#[]⟩, .slice none 0 0, .slice none 0 0], .int .i64 3]) (by simp [results, Tryz.results56, go_sem, g0, g1, g2, g3, g4, g5]) rfl ?_
            refine ⟨[.int .i64 0, .string ⟨#[]⟩, .string ⟨#[]⟩, .string ⟨#[]⟩, .slice none 0 0, .slice none 0 0], ?_, ?_, hbf⟩
            · rw [HNF.out]
            · rw [HNF.out]; exact RepC.mk' (RowL.nil _ _ _) (RowL.nil _ _ _) (by omega) (by omega)

      · by_cases hn0 : nO = 0
        · subst hn0
          have hOn : O = [] := List.eq_nil_of_length_eq_zero HNO.out
          have HOUT := HOU.out
          rw [hOn] at HOUT
          go_wp2_with fail
          obtain ⟨W, hW, T1, hszW, hbW0⟩ := alloc_facts wo (.cells #[.int .i64 3, .string ⟨#[]⟩, .string ⟨#[]⟩, .string ⟨#[]⟩, .slice none 0 0, .slice none 0 0] 28)
          rw [hW]
          have hbW := hboo.trans (hbW0.mono (by omega))
          have HRO : Hid (RepC W (fun b => wq.heap.size ≤ b) (anyC []) _) := Lib.hid (H3.out W _)
          have HSO := Lib.hid T1
          have HOUT : Hid (_ = anyC []) := Lib.hid HOUT
          clear T1 hOn
          obtain ⟨ev, hev⟩ : ∃ ev, chkN (anyC []) = ev := ⟨_, rfl⟩
          have HEV := Lib.hid hev
          clear hev
          refine (check_val (anyC []) _ W _ HRO.out HEV.out).mono ?_
          rintro e wz ⟨rfl, hbz⟩
          have hb2z := hbW.trans (hbz.mono hbW.size)
          have SR := hp_below HS3.out hb2z
          have SO := hp_below HSO.out hbz
          obtain ⟨o0, o1, o2, o3, o4, o5⟩ := blk6 SO
          obtain ⟨t0, t1, t2, t3, t4, t5⟩ := blk6 SR
          obtain ⟨f0, f1, f2, f3, f4, f5⟩ := frz6 SR
          by_cases hz : ev = 0
          · subst hz
            have HNF : Hid (normF chkN f m = ((anyC []), 0)) := Lib.hid (by unfold normF; rw [HOUT.out, if_pos HEV.out])
            obtain ⟨wf, hwf, Sf, Hf, Kf, Zf⟩ := set6_facts (.int .i64 3) (.string ⟨#[]⟩) (.string ⟨#[]⟩) (.string ⟨#[]⟩) (.slice none 0 0) (.slice none 0 0) SR
            have hbf : Below w.heap.size w wf := Hf (hb12.trans (hb2z.mono (by omega))) (by omega)
            have HRF : Hid (RepC wf (fun b => w.heap.size ≤ b) (anyC []) [.int .i64 3, .string ⟨#[]⟩, .string ⟨#[]⟩, .string ⟨#[]⟩, .slice none 0 0, .slice none 0 0]) := Lib.hid (RepC.keep (fun b hb hl => ⟨by have := HFO.out b hb; omega, Kf b (by have := HFO.out b hb; omega)⟩) _ _ (RepC.keep (fun b hb hl => ⟨hb, hbz.block b hl⟩) _ _ HRO.out))
            obtain ⟨g0, g1, g2, g3, g4, g5⟩ := blk6 Sf
            clear Sf SO SR Hf Kf Zf
            have hcc : ((0 : Int) != 0) = false := rfl
            go_wp2_with fail
            (try simp only [Exit.inBlock, Exit.then])
            refine bodyPost_ret (v := .tuple #[.agg #[.int .i64 3, .string ⟨#[]⟩, .string ⟨#[]⟩, .string ⟨#[]⟩, .slice none 0 0, .slice none 0 0], .int .i64 0]) (by simp [results, Tryz.results56, go_sem, g0, g1, g2, g3, g4, g5]) rfl ?_
            refine ⟨[.int .i64 3, .string ⟨#[]⟩, .string ⟨#[]⟩, .string ⟨#[]⟩, .slice none 0 0, .slice none 0 0], ?_, ?_, hbf⟩
            · rw [HNF.out]
            · rw [HNF.out]; exact HRF.out
          · have hcc : (ev != 0) = true := by simpa using hz
            have HNF : Hid (normF chkN f m = (zeroC, 3)) := Lib.hid (by unfold normF; rw [HOUT.out, HEV.out, if_neg hz])
            obtain ⟨wf, hwf, Sf, Hf, Kf, Zf⟩ := set6_facts (.int .i64 0) (.string ⟨#[]⟩) (.string ⟨#[]⟩) (.string ⟨#[]⟩) (.slice none 0 0) (.slice none 0 0) SR
            have hbf : Below w.heap.size w wf := Hf (hb12.trans (hb2z.mono (by omega))) (by omega)
            obtain ⟨g0, g1, g2, g3, g4, g5⟩ := blk6 Sf
            clear Sf SO SR hz Hf Kf Zf
            go_wp2_with fail
            (try simp only [Exit.inBlock, Exit.then])
            refine bodyPost_ret (v := .tuple #[.agg #[.int .i64 0, .string ⟨#[]⟩, .string ⟨#[]⟩, .string ⟨#[]⟩, .slice none 0 0, .slice none 0 0], .int .i64 3]) (by simp [results, Tryz.results56, go_sem, g0, g1, g2, g3, g4, g5]) rfl ?_
            refine ⟨[.int .i64 0, .string ⟨#[]⟩, .string ⟨#[]⟩, .string ⟨#[]⟩, .slice none 0 0, .slice none 0 0], ?_, ?_, hbf⟩
            · rw [HNF.out]
            · rw [HNF.out]; exact RepC.mk' (RowL.nil _ _ _) (RowL.nil _ _ _) (by omega) (by omega)

        · have hdn : decide (0 < nO) = true := by simp; omega
          have HOUT : Hid (_ = anyC [togC O]) := Lib.hid (HOU.out.trans (by cases O with | nil => exact absurd HNO.out.symm hn0 | cons x l => rfl))
          go_wp2_with fail
          obtain ⟨W1, hW1, T1, hszW1, hbW1⟩ := alloc_facts wo (.cells #[.int .i64 3, .string ⟨#[]⟩, .string ⟨#[]⟩, .string ⟨#[]⟩, .slice none 0 0, .slice none 0 0] 28)
          rw [hW1]
          refine (tog85_any O A nO c W1 _ (HROW.out.keepF hbW1) (by omega)).mono ?_
          rintro e W2 ⟨cs', rfl, hrep6, hbW2⟩
          have hrc := hrep6 _ (RowL.keepF (w := wo) (F := fun b => wq.heap.size ≤ b ∧ b ≠ wo.heap.size) ⟨HROW.out.1, fun hp => by
            obtain ⟨b, off, hA, hb, hr⟩ := HROW.out.2 hp
            have hlt := RepR.lt' O b off (by intro e; rw [e] at hp; simp at hp) hr
            exact ⟨b, off, hA, ⟨hb, by omega⟩, RepR.keep (fun b hb hl => ⟨⟨hb, by omega⟩, rfl⟩) O b off rfl hr⟩⟩ hbW1)
          obtain ⟨k3, ns3, nl3, s3, A3, n3, c03, A3', n3', c03', rfl⟩ := hrc.cells
          have hszW2 := hbW2.size
          have T2 := hp_below T1 hbW2
          obtain ⟨W3, hW3, U3, hszW3, hbW3⟩ := alloc_facts W2 (.cells #[.int .i64 k3, .string ns3, .string nl3, .string s3, .slice A3 n3 c03, .slice A3' n3' c03'] 28)
          have T3 := hp_below T2 hbW3
          obtain ⟨o0, o1, o2, o3, o4, o5⟩ := blk6 T3
          obtain ⟨f0, f1, f2, f3, f4, f5⟩ := frz6 T3
          obtain ⟨W, hW⟩ : ∃ W, W3.setCell ⟨wo.heap.size, 4, none⟩ (.slice (some ⟨W2.heap.size, 0, none⟩) 1 1) = W := ⟨_, rfl⟩
          have T4 : W.heap[wo.heap.size]? = some (.cells #[.int .i64 3, .string ⟨#[]⟩, .string ⟨#[]⟩, .string ⟨#[]⟩, .slice (some ⟨W2.heap.size, 0, none⟩) 1 1, .slice none 0 0] 28) := by rw [← hW, hp_set T3]; rfl
          have U4 : W.heap[W2.heap.size]? = some (.cells #[.int .i64 k3, .string ns3, .string nl3, .string s3, .slice A3 n3 c03, .slice A3' n3' c03'] 28) := by rw [← hW, hp_far (by omega) U3]
          have hbW : Below w2.heap.size w2 W := by
            rw [← hW]
            exact (((hboo.trans (hbW1.mono (by omega))).trans (hbW2.mono (by omega))).trans (hbW3.mono (by omega))).setCell (p := ⟨wo.heap.size, 4, none⟩) (by simp; omega) _
          have HX : Hid (RepC W (fun b => wq.heap.size ≤ b) (togC O) [.int .i64 k3, .string ns3, .string nl3, .string s3, .slice A3 n3 c03, .slice A3' n3' c03']) := Lib.hid (RepC.keep (w := W3) (fun b hb hl => ⟨hb.1, by rw [← hW]; exact Below.heap_setCell _ _ _ _ hb.2⟩) _ _ (hrc.keepF hbW3))
          have HRO : Hid (RepC W (fun b => wq.heap.size ≤ b) (anyC [togC O]) _) := Lib.hid (RepC.mk' (A := some ⟨W2.heap.size, 0, none⟩) (n := 1) (c := 1) (A' := none) (c' := 0) (RowL.one HX.out U4 (by omega)) (RowL.nil _ _ _) (by omega) (by omega))
          have HSO := Lib.hid T4
          obtain ⟨v0, v1, v2, v3, v4, v5⟩ := blk6 T4
          clear T1 T2 T3 T4 U3 U4 hrep6 hrc
          go_wp2_with fail
          clear o0 o1 o2 o3 o4 o5 f0 f1 f2 f3 f4 f5 v0 v1 v2 v3 v4 v5
          obtain ⟨ev, hev⟩ : ∃ ev, chkN (anyC [togC O]) = ev := ⟨_, rfl⟩
          have HEV := Lib.hid hev
          clear hev
          refine (check_val (anyC [togC O]) _ W _ HRO.out HEV.out).mono ?_
          rintro e wz ⟨rfl, hbz⟩
          have hb2z := hbW.trans (hbz.mono hbW.size)
          have SR := hp_below HS3.out hb2z
          have SO := hp_below HSO.out hbz
          obtain ⟨o0, o1, o2, o3, o4, o5⟩ := blk6 SO
          obtain ⟨t0, t1, t2, t3, t4, t5⟩ := blk6 SR
          obtain ⟨f0, f1, f2, f3, f4, f5⟩ := frz6 SR
          by_cases hz : ev = 0
          · subst hz
            have HNF : Hid (normF chkN f m = ((anyC [togC O]), 0)) := Lib.hid (by unfold normF; rw [HOUT.out, if_pos HEV.out])
            obtain ⟨wf, hwf, Sf, Hf, Kf, Zf⟩ := set6_facts (.int .i64 3) (.string ⟨#[]⟩) (.string ⟨#[]⟩) (.string ⟨#[]⟩) (.slice (some ⟨W2.heap.size, 0, none⟩) 1 1) (.slice none 0 0) SR
            have hbf : Below w.heap.size w wf := Hf (hb12.trans (hb2z.mono (by omega))) (by omega)
            have HRF : Hid (RepC wf (fun b => w.heap.size ≤ b) (anyC [togC O]) [.int .i64 3, .string ⟨#[]⟩, .string ⟨#[]⟩, .string ⟨#[]⟩, .slice (some ⟨W2.heap.size, 0, none⟩) 1 1, .slice none 0 0]) := Lib.hid (RepC.keep (fun b hb hl => ⟨by have := HFO.out b hb; omega, Kf b (by have := HFO.out b hb; omega)⟩) _ _ (RepC.keep (fun b hb hl => ⟨hb, hbz.block b hl⟩) _ _ HRO.out))
            obtain ⟨g0, g1, g2, g3, g4, g5⟩ := blk6 Sf
            clear Sf SO SR Hf Kf Zf
            have hcc : ((0 : Int) != 0) = false := rfl
            go_wp2_with fail
            (try simp only [Exit.inBlock, Exit.then])
            refine bodyPost_ret (v := .tuple #[.agg #[.int .i64 3, .string ⟨#[]⟩, .string ⟨#[]⟩, .string ⟨#[]⟩, .slice (some ⟨W2.heap.size, 0, none⟩) 1 1, .slice none 0 0], .int .i64 0]) (by simp [results, Tryz.results56, go_sem, g0, g1, g2, g3, g4, g5]) rfl ?_
            refine ⟨[.int .i64 3, .string ⟨#[]⟩, .string ⟨#[]⟩, .string ⟨#[]⟩, .slice (some ⟨W2.heap.size, 0, none⟩) 1 1, .slice none 0 0], ?_, ?_, hbf⟩
            · rw [HNF.out]
            · rw [HNF.out]; exact HRF.out
          · have hcc : (ev != 0) = true := by simpa using hz
            have HNF : Hid (normF chkN f m = (zeroC, 3)) := Lib.hid (by unfold normF; rw [HOUT.out, HEV.out, if_neg hz])
            obtain ⟨wf, hwf, Sf, Hf, Kf, Zf⟩ := set6_facts (.int .i64 0) (.string ⟨#[]⟩) (.string ⟨#[]⟩) (.string ⟨#[]⟩) (.slice none 0 0) (.slice none 0 0) SR
            have hbf : Below w.heap.size w wf := Hf (hb12.trans (hb2z.mono (by omega))) (by omega)
            obtain ⟨g0, g1, g2, g3, g4, g5⟩ := blk6 Sf
            clear Sf SO SR hz Hf Kf Zf
            go_wp2_with fail
            (try simp only [Exit.inBlock, Exit.then])
            refine bodyPost_ret (v := .tuple #[.agg #[.int .i64 0, .string ⟨#[]⟩, .string ⟨#[]⟩, .string ⟨#[]⟩, .slice none 0 0, .slice none 0 0], .int .i64 3]) (by simp [results, Tryz.results56, go_sem, g0, g1, g2, g3, g4, g5]) rfl ?_
            refine ⟨[.int .i64 0, .string ⟨#[]⟩, .string ⟨#[]⟩, .string ⟨#[]⟩, .slice none 0 0, .slice none 0 0], ?_, ?_, hbf⟩
            · rw [HNF.out]
            · rw [HNF.out]; exact RepC.mk' (RowL.nil _ _ _) (RowL.nil _ _ _) (by omega) (by omega)

end Go.Proofs.YtfildbkkmnfekaaGreatDoor
