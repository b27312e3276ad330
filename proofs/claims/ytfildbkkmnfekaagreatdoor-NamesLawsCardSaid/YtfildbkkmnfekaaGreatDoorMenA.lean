/- What is mentioned: add. -/
import Derived.Test.YtfildbkkmnfekaaGreatDoorG05
import Derived.WalkKit
import Derived.Deep.RegionHeld3
import Derived.WalkSpells
import Derived.WalkLawsBesides
import Derived.BigGuardPart
import Derived.Lib.Hide
import Derived.Deep.QuietTactic
import Derived.BigQuiet
import Derived.StillTailTactics
import Derived.Deep.DeepCutAuto
import Derived.Deep.CutBlock
import Derived.Laws.EntriesVeiled
namespace Go.Proofs.YtfildbkkmnfekaaGreatDoor
open Go.RowKit

mutual
/-- The number of the classes in a class, at most. -/
def numC : Cls → Nat
  | .mk _ _ _ _ ex ar => 1 + numL ex + numL ar
def numL : List Cls → Nat
  | [] => 0
  | c :: l => numC c + numL l
end
abbrev Men := List Nm × List ByteArray
mutual
/-- What is mentioned in a class, into two ascending lists. -/
def addC : Cls → Men → Men
  | .mk k ns nl s ex ar, m => addL ar (addL ex (if k = 1 then (putN m.1 (ns, nl), putS m.2 ns) else if k = 2 then (m.1, putS m.2 s) else m))
def addL : List Cls → Men → Men
  | [], m => m
  | c :: l, m => addL l (addC c m)
end
theorem putA_len {α : Type} (lt eq : α → α → Bool) (x : α) (l : List α) : (putA lt eq x l).length ≤ l.length + 1 := by
  unfold putA
  split
  · split <;> simp <;> omega
  · simp; omega
theorem putA_le {α : Type} (lt eq : α → α → Bool) (x : α) (l : List α) : l.length ≤ (putA lt eq x l).length := by
  unfold putA
  split
  · split <;> simp <;> omega
  · simp; omega
mutual
theorem addC_len : ∀ (c : Cls) (m : Men), (addC c m).1.length ≤ m.1.length + numC c ∧ (addC c m).2.length ≤ m.2.length + numC c
  | .mk k ns nl s ex ar, m => by
    rw [addC, numC]
    generalize hm : (if k = 1 then (putN m.1 (ns, nl), putS m.2 ns) else if k = 2 then (m.1, putS m.2 s) else m) = m'
    have h1 := addL_len ar (addL ex m')
    have h2 := addL_len ex m'
    have h3 : m'.1.length ≤ m.1.length + 1 ∧ m'.2.length ≤ m.2.length + 1 := by
      rw [← hm]
      split
      · exact ⟨putA_len _ _ _ _, putA_len _ _ _ _⟩
      · split
        · exact ⟨by simp, putA_len _ _ _ _⟩
        · exact ⟨by omega, by omega⟩
    omega
theorem addL_len : ∀ (l : List Cls) (m : Men), (addL l m).1.length ≤ m.1.length + numL l ∧ (addL l m).2.length ≤ m.2.length + numL l
  | [], m => by rw [addL, numL]; exact ⟨Nat.le_refl _, Nat.le_refl _⟩
  | c :: l, m => by
    rw [addL, numL]
    have h1 := addL_len l (addC c m)
    have h2 := addC_len c m
    omega
end
theorem addL_step {l : List Cls} {i : Nat} {ch : Cls} (m : Men) (h : l[i]? = some ch) : addL (l.drop i) m = addL (l.drop (i + 1)) (addC ch m) := by
  obtain ⟨hi, rfl⟩ := List.getElem?_eq_some_iff.1 h
  rw [List.drop_eq_getElem_cons hi, addL]
theorem numL_step {l : List Cls} {i : Nat} {ch : Cls} (h : l[i]? = some ch) : numL (l.drop i) = numC ch + numL (l.drop (i + 1)) := by
  obtain ⟨hi, rfl⟩ := List.getElem?_eq_some_iff.1 h
  rw [List.drop_eq_getElem_cons hi, numL]
/-- The Mentions in block gm: their lists lie behind it. -/
def MenV (w : World) (gm : Nat) (m : Men) : Prop :=
  ∃ A n c A' n' c', w.heap[gm]? = some (.cells #[.slice A n c, .slice A' n' c'] 96) ∧ RowV w (gm < ·) 2 nmV m.1 A n ∧ RowV w (gm < ·) 1 strV m.2 A' n' ∧ n ≤ c ∧ c ≤ maxLen ∧ n' ≤ c' ∧ c' ≤ maxLen
theorem RowV.drew {α : Type} {w : World} {F : Nat → Prop} {sz : Nat} {cells : α → List Value} {l : List α} {A : Option Addr} {n : Nat} (h : RowV w F sz cells l A n) : RowV w.drew F sz cells l A n := h.keep fun _ hb => ⟨hb, rfl⟩
theorem RowV.kept {α : Type} {w w' : World} {gm : Nat} {sz : Nat} {cells : α → List Value} {l : List α} {A : Option Addr} {n : Nat} (h : RowV w (gm < ·) sz cells l A n) (hl : ∀ x, (cells x).length = sz) (hsz : 0 < sz) (hk : Kept (· = gm) w w') : RowV w' (gm < ·) sz cells l A n :=
  (h.both hl hsz).keep fun b hb => ⟨hb.1, hk.block b hb.2 (fun e => by have := hb.1; omega)⟩
theorem MenV.below {w w' : World} {gm : Nat} {m : Men} (h : MenV w gm m) (hb : Below w.heap.size w w') : MenV w' gm m := by
  obtain ⟨A, n, c, A', n', c', hh, r1, r2, r⟩ := h
  exact ⟨A, n, c, A', n', c', hp_below hh hb, r1.kept nm_len (by decide) (Kept.of_below hb), r2.kept str_len (by decide) (Kept.of_below hb), r⟩
theorem hp_set2_0 {w : World} {g : Nat} {v u0 u1 : Value} {t : TypeId} (h : w.heap[g]? = some (.cells #[u0, u1] t)) : (w.setCell ⟨g, 0, none⟩ v).heap[g]? = some (.cells #[v, u1] t) := by rw [hp_set h]; rfl
theorem hp_set2_1 {w : World} {g : Nat} {v u0 u1 : Value} {t : TypeId} (h : w.heap[g]? = some (.cells #[u0, u1] t)) : (w.setCell ⟨g, 1, none⟩ v).heap[g]? = some (.cells #[u0, v] t) := by rw [hp_set h]; rfl
theorem kept_set {w : World} {g i : Nat} (v : Value) : Kept (· = g) w (w.setCell ⟨g, i, none⟩ v) := (Kept.refl (· = g) w).setCell (p := ⟨g, i, none⟩) (.inl rfl) v
set_option maxHeartbeats 1000000 in
set_option maxRecDepth 100000 in
theorem add_any (gm : Nat) (c : Cls) : ∀ (cs : List Value) (w : World) (B : Nat) (st : Men), RepC w (· < B) c cs → B ≤ gm → MenV w gm st → st.1.length + numC c < 2000000 → st.2.length + numC c < 2000000 →
    Calls Tryz.prog 96 #[.pointer (some ⟨gm, 0, none⟩), .agg cs.toArray] w fun e w' => e = .returned (.tuple #[]) ∧ MenV w' gm (addC c st) ∧ Kept (· = gm) w w' := by
  induction c using Cls.ind with
  | _ k ns nl s ex ar ihe iha =>
    intro cs w B st hr0 hB hst hn1 hn2
    obtain ⟨A, n, c, A', n', c', rfl, hl, hl', h1, h2⟩ := hr0.form
    have HE0 := Lib.hid ihe; have HA0 := Lib.hid iha; clear ihe iha hr0
    obtain ⟨w1, hw1, hblk, hsz, hb1⟩ := alloc_facts w (.cells #[.int .i64 k, .string ns, .string nl, .string s, .slice A n c, .slice A' n' c'] 28)
    have hst1 := hst.below hb1
    obtain ⟨D, m, d, D', m', d', S1, R1, R2, e1, e2, e3, e4⟩ := hst1
    have hgm : gm < w.heap.size := by obtain ⟨_, _, _, _, _, _, hh, _⟩ := hst; exact hp_lt hh
    have hbg : Below gm w w1 := hb1.mono (by omega)
    obtain ⟨q0, q1, q2, q3, q4, q5⟩ := blk6 hblk
    obtain ⟨a0, a1⟩ := blk2 S1
    obtain ⟨st1, hst1⟩ : ∃ st1, (if k = 1 then (putN st.1 (ns, nl), putS st.2 ns) else if k = 2 then (st.1, putS st.2 s) else st) = st1 := ⟨_, rfl⟩
    have HC : Hid (addC (.mk k ns nl s ex ar) st = addL ar (addL ex st1)) := Lib.hid (by rw [addC, hst1])
    have HNB : Hid (st1.1.length + numL ex + numL ar < 2000000 ∧ st1.2.length + numL ex + numL ar < 2000000) := Lib.hid (by
      rw [numC] at hn1 hn2
      have h3 : st1.1.length ≤ st.1.length + 1 ∧ st1.2.length ≤ st.2.length + 1 := by
        rw [← hst1]
        split
        · exact ⟨putA_len _ _ _ _, putA_len _ _ _ _⟩
        · split
          · exact ⟨by simp, putA_len _ _ _ _⟩
          · exact ⟨by omega, by omega⟩
      omega)
    have hm1 : m < 2000000 := by have := R1.len; omega
    have hm2 : m' < 2000000 := by have := R2.len; omega
    have HB := Lib.hid hblk; have HS1 := Lib.hid S1; have HST1 := Lib.hid hst1; have HST := Lib.hid hst
    clear hblk S1 hst1 hst hn1 hn2
    obtain ⟨sta, hsta⟩ : ∃ sta : Men, (if k = 1 then (putN st.1 (ns, nl), putS st.2 ns) else st) = sta := ⟨_, rfl⟩
    have HSTA := Lib.hid hsta; clear hsta
    go_enter Tryz.func96, Tryz.ntmps96
    go_upto_if 8 with fail
    have HW := Lib.hid hw1; clear hw1
    go_cut [] (fun wc => MenV wc gm sta ∧ Kept (· = gm) w1 wc)
    case first =>
      cases hk : (k == 1)
      · go_wp2_with fail
        go_meet
        case rel => exact ⟨by rw [← HSTA.out, if_neg (by simpa using hk)]; exact ⟨D, m, d, D', m', d', HS1.out, R1, R2, e1, e2, e3, e4⟩, Kept.refl _ _⟩
      · go_wp2_with fail
        go_region_with
          (first | (go_at_call 106; refine (putName_any ns nl st.1 D m d w1.drew (gm < ·) R1.drew hm1 e1 e2).mono ?_
                    rintro e w2 ⟨D2, m2, d2, rfl, row2, g1, g2, hb2⟩
                    have hb2' : Below w1.heap.size w1 w2 := ⟨hb2.os, hb2.tape, hb2.output, hb2.size, hb2.block⟩
                    have row2' : RowV w2 (gm < ·) 2 nmV (putN st.1 (ns, nl)) D2 m2 := row2.imp (by
                      rintro b ⟨h | h, _⟩
                      · exact h
                      · have : w1.heap.size ≤ b := h
                        omega)
                    have S2 := hp_below HS1.out hb2'
                    obtain ⟨b0, b1⟩ := blk2 S2
                    have f0 := frozen_of_row w2 gm 0 _ _ S2
                    have HS2 := Lib.hid S2
                    clear S2 row2 hb2))
        all_goals
          obtain ⟨w3, hw3⟩ : ∃ w3, w2.setCell ⟨gm, 0, none⟩ (.slice D2 m2 d2) = w3 := ⟨_, rfl⟩
          rw [hw3]
          have S3 : w3.heap[gm]? = some (.cells #[.slice D2 m2 d2, .slice D' m' d'] 96) := by rw [← hw3]; exact hp_set2_0 HS2.out
          obtain ⟨t0, t1⟩ := blk2 S3
          have hk3 : Kept (· = gm) w1 w3 := by rw [← hw3]; exact (Kept.of_below hb2').trans (kept_set _)
          have B3 := hp_kept HB.out hk3 (by omega)
          obtain ⟨z0, z1, z2, z3, z4, z5⟩ := blk6 B3
          have HS3 := Lib.hid S3
          have HW3 := Lib.hid hw3
          clear S3 B3 hw3
          go_wp2_with fail
          go_region_with
            (first | (go_at_call 107; refine (putSpace_any ns st.2 D' m' d' w3.drew (gm < ·) (R2.kept str_len (by decide) hk3).drew hm2 e3 e4).mono ?_
                      rintro e w4 ⟨D4, m4, d4, rfl, row4, g3, g4, hb4⟩
                      have hb4' : Below w3.heap.size w3 w4 := ⟨hb4.os, hb4.tape, hb4.output, hb4.size, hb4.block⟩
                      have row4' : RowV w4 (gm < ·) 1 strV (putS st.2 ns) D4 m4 := row4.imp (by
                        rintro b ⟨h | h, _⟩
                        · exact h
                        · have : w3.heap.size ≤ b := h
                          have := hk3.size
                          omega)
                      have S4 := hp_below HS3.out hb4'
                      obtain ⟨x0, x1⟩ := blk2 S4
                      have f1 := frozen_of_row w4 gm 1 _ _ S4
                      have HS4 := Lib.hid S4
                      clear S4 row4 hb4))
          all_goals
            go_wp2_with fail
            go_meet
            case rel =>
              have hk4 : Kept (· = gm) w1 w4 := hk3.trans (Kept.of_below hb4')
              have row3 : RowV w3 (gm < ·) 2 nmV (putN st.1 (ns, nl)) D2 m2 := row2'.kept nm_len (by decide) (by rw [← HW3.out]; exact kept_set _)
              refine ⟨?_, hk4.trans (kept_set _)⟩
              rw [← HSTA.out, if_pos (by simpa using hk)]
              exact ⟨D2, m2, d2, D4, m4, d4, hp_set2_1 HS4.out, (row3.kept nm_len (by decide) (Kept.of_below hb4')).kept nm_len (by decide) (kept_set _), row4'.kept str_len (by decide) (kept_set _), g1, g2, g3, g4⟩
    case rest =>
      obtain ⟨hma, hka⟩ := hcut
      have hsta1 := hma
      obtain ⟨E0, p, g, E1, p', g', T1, Q1, Q2, e5, e6, e7, e8⟩ := hma
      have TB := hp_kept HB.out hka (by omega)
      clear q0 q1 q2 q3 q4 q5 a0 a1
      obtain ⟨q0, q1, q2, q3, q4, q5⟩ := blk6 TB
      obtain ⟨a0, a1⟩ := blk2 T1
      have HTB := Lib.hid TB; have HT1 := Lib.hid T1; have HMA := Lib.hid hsta1
      have hp2 : p' < 2000000 := by
        have h1 := Q2.len
        have h2 := HNB.out
        have h3 : sta.2.length ≤ st1.2.length := by
          rw [← HSTA.out, ← HST1.out]
          split
          · exact Nat.le_refl _
          · split
            · exact putA_le _ _ _ _
            · exact Nat.le_refl _
        omega
      clear TB T1 hsta1
      go_upto_if 32 with fail
      go_cut [] (fun wd => MenV wd gm st1 ∧ Kept (· = gm) w1 wd)
      case first =>
        cases hk : (k == 2)
        · go_wp2_with fail
          go_meet
          case rel =>
            refine ⟨?_, hka⟩
            have e : sta = st1 := by rw [← HSTA.out, ← HST1.out]; simp [show ¬ k = 2 by simpa using hk]
            rw [← e]; exact HMA.out
        · go_wp2_with fail
          go_region_with
            (first | (go_at_call 107; refine (putSpace_any s sta.2 E1 p' g' wc.drew (gm < ·) Q2.drew hp2 e7 e8).mono ?_
                      rintro e w4 ⟨D4, m4, d4, rfl, row4, g3, g4, hb4⟩
                      have hb4' : Below wc.heap.size wc w4 := ⟨hb4.os, hb4.tape, hb4.output, hb4.size, hb4.block⟩
                      have row4' : RowV w4 (gm < ·) 1 strV (putS sta.2 s) D4 m4 := row4.imp (by
                        rintro b ⟨h | h, _⟩
                        · exact h
                        · have : wc.heap.size ≤ b := h
                          have := hka.size
                          omega)
                      have S4 := hp_below HT1.out hb4'
                      obtain ⟨x0, x1⟩ := blk2 S4
                      have f1 := frozen_of_row w4 gm 1 _ _ S4
                      have HS4 := Lib.hid S4
                      clear S4 row4 hb4))
          all_goals
            go_wp2_with fail
            go_meet
            case rel =>
              have hk4 : Kept (· = gm) w1 w4 := hka.trans (Kept.of_below hb4')
              refine ⟨?_, hk4.trans (kept_set _)⟩
              have e : st1 = (sta.1, putS sta.2 s) := by
                have h2 : k = 2 := by simpa using hk
                rw [← HSTA.out, ← HST1.out]; simp [h2]
              rw [e]
              exact ⟨E0, p, g, D4, m4, d4, hp_set2_1 HS4.out, (Q1.kept nm_len (by decide) (Kept.of_below hb4')).kept nm_len (by decide) (kept_set _), row4'.kept str_len (by decide) (kept_set _), e5, e6, g3, g4⟩
      case rest =>
        obtain ⟨hm, hk1⟩ := hcut
        have HM := Lib.hid hm; have HK := Lib.hid hk1
        clear q0 q1 q2 q3 q4 q5 a0 a1 hm HTB HT1 HMA
        obtain ⟨q0, q1, q2, q3, q4, q5⟩ := blk6 (hp_kept HB.out hk1 (by omega))
        go_wp2_with fail
        clear q0 q1 q2 q3 q4 q5
        go_loopw [4] (fun si wr => ∃ i : Nat, i ≤ n ∧ si = .int .i64 i ∧ ∃ sx, Hid (addL ex st1 = addL (ex.drop i) sx) ∧ MenV wr gm sx ∧ Hid (sx.1.length + numL (ex.drop i) ≤ st1.1.length + numL ex ∧ sx.2.length + numL (ex.drop i) ≤ st1.2.length + numL ex) ∧ Kept (· = gm) w1 wr)
          (fun si _ => n - (intOf si).toNat)
        case atStart => exact ⟨0, by omega, rfl, _, Lib.hid rfl, HM.out, Lib.hid ⟨Nat.le_refl _, Nat.le_refl _⟩, HK.out⟩
        case round =>
          obtain ⟨i, hi, rfl, sx, HL, hmen, HN, hkr⟩ := hrel
          have hbw : Below gm w wr := hbg.trans (hkr.below (by omega) (by intro k hk e; omega))
          obtain ⟨q0, q1, q2, q3, q4, q5⟩ := blk6 (hp_kept HB.out hkr (by omega))
          have HME := Lib.hid hmen
          clear hmen
          by_cases hlt : i < n
          · obtain ⟨b, off, ch, v0, v1, v2, v3, v4, v5, HX, hrc, p0, p1, p2, p3, p4, p5, hix⟩ := h1.roundB (hbw.mono hB) hlt c
            have hd : decide (i < n) = true := by simp; omega
            go_wp2_with fail
            refine (HE0.out ch (mem_of_hid HX) _ _ _ sx hrc hB HME.out (by have h1 := HN.out; have h2 := numL_step HX.out; have h3 := HNB.out; omega) (by have h1 := HN.out; have h2 := numL_step HX.out; have h3 := HNB.out; omega)).mono ?_
            rintro e w2 ⟨rfl, hm2, hk2⟩
            go_wp2_with fail
            go_roundw
            case rel => exact ⟨i + 1, by omega, by go_num, _, Lib.hid (by rw [HL.out, addL_step _ HX.out]), hm2, Lib.hid (by have h1 := HN.out; have h2 := numL_step HX.out; have h3 := addC_len ch sx; omega), hkr.trans hk2⟩
            case measure => simp [intOf]; omega
          · have hd : decide (i < n) = false := by simp; omega
            have hdn : ex.drop i = [] := List.drop_eq_nil_of_le (by have := h1.len; omega)
            have HEX : Hid (addL ex st1 = sx) := Lib.hid (by rw [HL.out, hdn, addL])
            have HNX : Hid (sx.1.length ≤ st1.1.length + numL ex ∧ sx.2.length ≤ st1.2.length + numL ex) := Lib.hid (by have h := HN.out; rw [hdn, numL] at h; exact h)
            clear hdn HN HL
            clear HM HK
            have HM := HME
            have HK := Lib.hid hkr
            clear HME
            go_wp2_with fail
            clear q0 q1 q2 q3 q4 q5 hkr hbw
            go_loopw [5] (fun si wr => ∃ i : Nat, i ≤ n' ∧ si = .int .i64 i ∧ ∃ sy, Hid (addL ar sx = addL (ar.drop i) sy) ∧ MenV wr gm sy ∧ Hid (sy.1.length + numL (ar.drop i) ≤ sx.1.length + numL ar ∧ sy.2.length + numL (ar.drop i) ≤ sx.2.length + numL ar) ∧ Kept (· = gm) w1 wr)
              (fun si _ => n' - (intOf si).toNat)
            case atStart => exact ⟨0, by omega, rfl, _, Lib.hid rfl, HM.out, Lib.hid ⟨Nat.le_refl _, Nat.le_refl _⟩, HK.out⟩
            case round =>
              obtain ⟨i, hi, rfl, sy, HL, hmen, HN, hkr⟩ := hrel
              have hbw : Below gm w wr := hbg.trans (hkr.below (by omega) (by intro k hk e; omega))
              obtain ⟨q0, q1, q2, q3, q4, q5⟩ := blk6 (hp_kept HB.out hkr (by omega))
              have HME := Lib.hid hmen
              clear hmen
              by_cases hlt : i < n'
              · obtain ⟨b, off, ch, v0, v1, v2, v3, v4, v5, HX, hrc, p0, p1, p2, p3, p4, p5, hix⟩ := h2.roundB (hbw.mono hB) hlt c'
                have hd : decide (i < n') = true := by simp; omega
                go_wp2_with fail
                refine (HA0.out ch (mem_of_hid HX) _ _ _ sy hrc hB HME.out (by have h1 := HN.out; have h2 := numL_step HX.out; have h3 := HNB.out; have h4 := HNX.out; omega) (by have h1 := HN.out; have h2 := numL_step HX.out; have h3 := HNB.out; have h4 := HNX.out; omega)).mono ?_
                rintro e w2 ⟨rfl, hm2, hk2⟩
                go_wp2_with fail
                go_roundw
                case rel => exact ⟨i + 1, by omega, by go_num, _, Lib.hid (by rw [HL.out, addL_step _ HX.out]), hm2, Lib.hid (by have h1 := HN.out; have h2 := numL_step HX.out; have h3 := addC_len ch sy; omega), hkr.trans hk2⟩
                case measure => simp [intOf]; omega
              · have hd : decide (i < n') = false := by simp; omega
                have hdn : ar.drop i = [] := List.drop_eq_nil_of_le (by have := h2.len; omega)
                have HE : Hid (addL ar sx = sy) := Lib.hid (by rw [HL.out, hdn, addL])
                have HNY : Hid (sy.1.length ≤ sx.1.length + numL ar ∧ sy.2.length ≤ sx.2.length + numL ar) := Lib.hid (by have h := HN.out; rw [hdn, numL] at h; exact h)
                clear hdn HN HL
                go_wp2_with fail
                go_end0
                exact ⟨rfl, by rw [HC.out, HEX.out, HE.out]; exact HME.out, (Kept.of_below hb1).trans hkr⟩
end Go.Proofs.YtfildbkkmnfekaaGreatDoor
