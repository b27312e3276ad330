/- The fresh name of a space. The new space. Mentioned. The first name that is free. -/
import Derived.Test.YtfildbkkmnfekaaGreatDoorNumA
import Derived.Test.YtfildbkkmnfekaaGreatDoorSince
import Derived.WalkKit
import Derived.Deep.RegionHeld3
import Derived.Handy
import Derived.WalkSpells
import Derived.WalkLawsBesides
import Derived.BigGuardPart
import Derived.Lib.Hide
import Derived.Deep.QuietTactic
import Derived.BigQuiet
import Derived.StillTailTactics
import Derived.Deep.DeepCutAuto
import Derived.Deep.CutBlock
import Derived.Laws.EntriesVeiled
namespace Go.Proofs.YtfildbkkmnfekaaGreatDoor
open Go.RowKit

def xB : ByteArray := ⟨#[120]⟩
def uB : ByteArray := ⟨#[117]⟩
/-- The first number that is not taken. -/
def IsFirst (taken : Nat → Bool) (I : Nat) : Prop := taken I = false ∧ ∀ j, j < I → taken j = true
def takenN (st l : List Nm) (a : ByteArray) (i : Nat) : Bool := inNs st a (numB xB i) || inNs l a (numB xB i)
theorem refhas_val {v : Bool} (a b : ByteArray) (l : List Nm) (A : Option Addr) (n c : Nat) (w : World) (F : Nat → Prop) (hrow0 : RowV w F 2 nmV l A n) (hn : n < 2000000000000) (hv : inNs l a b = v) :
    Calls Tryz.prog 71 #[.slice A n c, .agg #[.string a, .string b]] w fun e w' => e = .returned (.bool v) ∧ Below w.heap.size w w' := by
  subst hv; exact refhas_any a b l A n c w F hrow0 hn
set_option maxHeartbeats 1000000 in
set_option maxRecDepth 100000 in
theorem reffresh_any (gm : Nat) (st : Men) (a : ByteArray) (l : List Nm) (A : Option Addr) (n c : Nat) (w : World) (F : Nat → Prop) (hm : MenV w gm st) (hrow0 : RowV w F 2 nmV l A n) (hn0 : st.1.length < 2000000) (hn : n < 2000000)
    (I : Nat) (hI : IsFirst (takenN st.1 l a) I) (hIb : I < 100000000) :
    Calls Tryz.prog 82 #[.pointer (some ⟨gm, 0, none⟩), .string a, .slice A n c] w fun e w' => e = .returned (.agg #[.string a, .string (numB xB I)]) ∧ Below w.heap.size w w' := by
  have hrow := hrow0.here nmV_ne
  obtain ⟨w1, hw1, hblk, hsz, hb1⟩ := alloc_facts w (.cells #[.string ⟨#[]⟩, .string ⟨#[]⟩] 24)
  have hm1 := hm.below hb1
  obtain ⟨D, m, d, D', m', d', S1, R1, R2, e1, e2, e3, e4⟩ := hm1
  have hmn : m < 2000000 := by have := R1.len; omega
  have hgm : gm < w.heap.size := by obtain ⟨_, _, _, _, _, _, hh, _⟩ := hm; exact hp_lt hh
  have HS1 := Lib.hid S1; have HB := Lib.hid hblk; have HI := Lib.hid hI; have HR := Lib.hid hrow; have HR1 := Lib.hid (R1.here nmV_ne)
  clear S1 hblk hm hI hrow hrow0
  go_enter Tryz.func82, Tryz.ntmps82
  go_wp2_with fail
  have HW := Lib.hid hw1; clear hw1
  go_loopw [7] (fun si wr => ∃ i : Nat, i ≤ I ∧ si = .int .i64 i ∧ Below w1.heap.size w1 wr)
    (fun si _ => I - (intOf si).toNat)
  case atStart => exact ⟨0, by omega, rfl, Below.refl _ _⟩
  case round =>
    obtain ⟨i, hi, rfl, hbr⟩ := hrel
    go_wp2_with fail
    refine (refnumbered_any xB i (by omega) (by decide) wr).mono ?_
    rintro e w2 ⟨rfl, hb2⟩
    obtain ⟨w3, hw3, hblk3, hsz3, hb3⟩ := alloc_facts w2 (.cells #[.string a, .string (numB xB i)] 24)
    have HB3 := Lib.hid hblk3; clear hblk3
    go_wp2_with fail
    have hb13 : Below w1.heap.size w1 w3 := hbr.trans ((hb2.seq hb3).mono hbr.size)
    have hb23 : Below w2.heap.size w2 w3 := hb3
    have Sm := hp_below HS1.out hb13
    obtain ⟨a0, a1⟩ := blk2 Sm
    obtain ⟨t0, t1⟩ := blk2 HB3.out
    have HSm := Lib.hid Sm
    have hg8 : w.heap.size < w2.heap.size := by have := hbr.size; have := hb2.size; omega
    have hsz1 := hb13.size
    clear Sm
    have HK : Hid (takenN st.1 l a i = false → i = I) := Lib.hid fun h => by
      rcases Nat.lt_or_ge i I with h1 | h1
      · have := HI.out.2 i h1; rw [h] at this; cases this
      · omega
    have HK2 : Hid (takenN st.1 l a i = true → i < I) := Lib.hid fun h => by
      rcases Nat.lt_or_ge i I with h1 | h1
      · exact h1
      · have h2 : i = I := by omega
        rw [h2, HI.out.1] at h; cases h
    obtain ⟨v1, hv1⟩ : ∃ v1, inNs st.1 a (numB xB i) = v1 := ⟨_, rfl⟩
    obtain ⟨v2, hv2⟩ : ∃ v2, inNs l a (numB xB i) = v2 := ⟨_, rfl⟩
    have HV1 := Lib.hid hv1; have HV2 := Lib.hid hv2
    have HT : Hid (takenN st.1 l a i = (v1 || v2)) := Lib.hid (by unfold takenN; rw [hv1, hv2])
    clear hv1 hv2
    have k0 := Since.cell a0
    have k1 := Since.cell t0
    have k2 := Since.cell t1
    have r1 := Since.row (HR1.out.below hb13) nmV_ne
    have r2 := Since.row ((HR.out.below hb1).below (hb13.mono (by omega))) nmV_ne
    have K1 := Lib.hid r1; have K2 := Lib.hid r2
    clear r1 r2
    rcases v1 with _ | _
    all_goals rcases v2 with _ | _
    all_goals
      refine wp_region_since (by kernel_rfl) (by kernel_rfl) ?_
      repeat (quiet_step (first
        | (go_at_call_of 71 (Value.slice D m d); exact since_of (refhas_val a (numB xB i) st.1 D m d _ _ (K1.out _) (by omega) HV1.out))
        | (go_at_call_of 71 (Value.slice A n c); exact since_of (refhas_val a (numB xB i) l A n c _ _ (K2.out _) (by omega) HV2.out))))
      refine wpQuiet_nil ?_
      intro wq hq
      have hbq := since_below hq
      clear hq
    all_goals
      have hb1q : Below w1.heap.size w1 wq := hb13.trans (hbq.mono hsz1)
    · obtain ⟨x0, x1⟩ := blk2 (hp_below HB3.out hbq)
      obtain ⟨b0, b1⟩ := blk2 (hp_below HB.out hb1q)
      have S1 := hp_below HB.out hb1q
      have f0 := frozen_of_row wq w.heap.size 0 _ _ S1
      have f1 := frozen_of_row wq w.heap.size 1 _ _ S1
      have HS1 := Lib.hid S1
      clear S1
      obtain ⟨wf, hwf⟩ : ∃ wf, (wq.setCell ⟨w.heap.size, 0, none⟩ (.string a)).setCell ⟨w.heap.size, 1, none⟩ (.string (numB xB i)) = wf := ⟨_, rfl⟩
      have Sf : wf.heap[w.heap.size]? = some (.cells #[.string a, .string (numB xB i)] 24) := by rw [← hwf]; exact hp_set2_1 (hp_set2_0 HS1.out)
      have hbf : Below w.heap.size w wf := by
        rw [← hwf]
        exact ((hb1.seq hb1q).setCell (p := ⟨w.heap.size, 0, none⟩) (Nat.le_refl _) _).setCell (p := ⟨w.heap.size, 1, none⟩) (Nat.le_refl _) _
      obtain ⟨z0, z1⟩ := blk2 Sf
      clear Sf
      go_wp2_with fail
      (try simp only [Exit.inBlock, Exit.then])
      refine bodyPost_ret (v := .agg #[.string a, .string (numB xB i)]) (by simp [results, Tryz.results82, go_sem, z0, z1]) rfl ?_
      exact ⟨by rw [HK.out (by rw [HT.out]; rfl)], hbf⟩
    all_goals
      go_wp2_with fail
      go_roundw
      case rel => exact ⟨i + 1, by have := HK2.out (by rw [HT.out]; rfl); omega, by go_num, hb1q⟩
      case measure => have := HK2.out (by rw [HT.out]; rfl); simp [intOf]; omega
end Go.Proofs.YtfildbkkmnfekaaGreatDoor
namespace Go.Proofs.YtfildbkkmnfekaaGreatDoor
open Go.RowKit

def inSs : List ByteArray → ByteArray → Bool
  | [], _ => false
  | x :: l, s => eqS x s || inSs l s
theorem inSs_step {l : List ByteArray} {i : Nat} {x s : ByteArray} (hx : l[i]? = some x) : inSs (l.drop i) s = (eqS x s || inSs (l.drop (i + 1)) s) := by
  obtain ⟨h1, rfl⟩ := List.getElem?_eq_some_iff.1 hx
  rw [List.drop_eq_getElem_cons h1, inSs]
theorem inSs_iff (l : List ByteArray) (s : ByteArray) : inSs l s = true ↔ s ∈ l := by
  induction l with
  | nil => simp [inSs]
  | cons x l ih =>
    simp only [inSs, Bool.or_eq_true, eqS_iff, ih, List.mem_cons]
    exact ⟨fun h => h.imp (fun e => e.symm) id, fun h => h.imp (fun e => e.symm) id⟩
def takenS (st : List ByteArray) (i : Nat) : Bool := inSs st (numB uB i)
set_option maxHeartbeats 1000000 in
set_option maxRecDepth 100000 in
theorem refnew_any (gm : Nat) (st : Men) (w : World) (hm : MenV w gm st) (hn0 : st.2.length < 2000000) (I : Nat) (hI : IsFirst (takenS st.2) I) (hIb : I < 100000000) :
    Calls Tryz.prog 83 #[.pointer (some ⟨gm, 0, none⟩)] w fun e w' => e = .returned (.string (numB uB I)) ∧ Below w.heap.size w w' := by
  obtain ⟨D, m, d, D', n, d', S1, R1, R2, e1, e2, e3, e4⟩ := hm
  have hn : n < 2000000 := by have := R2.len; omega
  have hgm : gm < w.heap.size := hp_lt S1
  have HS1 := Lib.hid S1; have HI := Lib.hid hI; have hrow := R2.here strV_ne
  clear S1 hI
  go_enter Tryz.func83, Tryz.ntmps83
  go_wp2_with fail
  go_loopw [3] (fun si wr => ∃ i : Nat, i ≤ I ∧ si = .int .i64 i ∧ Below w.heap.size w wr)
    (fun si _ => I - (intOf si).toNat)
  case atStart => exact ⟨0, by omega, rfl, Below.refl _ _⟩
  case round =>
    obtain ⟨i, hi, rfl, hbr⟩ := hrel
    go_wp2_with fail
    refine (refnumbered_any uB i (by omega) (by decide) wr).mono ?_
    rintro e w2 ⟨rfl, hb2⟩
    have hbr2 := hbr.trans (hb2.mono hbr.size)
    obtain ⟨s, hs⟩ : ∃ s, numB uB i = s := ⟨_, rfl⟩
    have HK : Hid (inSs st.2 s = false → i = I) := Lib.hid fun h => by
      rcases Nat.lt_or_ge i I with h1 | h1
      · have := HI.out.2 i h1; unfold takenS at this; rw [hs, h] at this; cases this
      · omega
    have HK2 : Hid (inSs st.2 s = true → i < I) := Lib.hid fun h => by
      rcases Nat.lt_or_ge i I with h1 | h1
      · exact h1
      · have h2 : i = I := by omega
        have h3 := HI.out.1
        unfold takenS at h3
        rw [← h2, hs, h] at h3; cases h3
    rw [hs]
    have HS := Lib.hid hs; clear hs
    go_wp2_with fail
    go_loopw [5, 6] (fun s5 s6 wk => ∃ (k : Nat) (v : Bool), k ≤ n ∧ s5 = .bool v ∧ s6 = .int .i64 k ∧ Hid ((v || inSs (st.2.drop k) s) = inSs st.2 s) ∧ Below w.heap.size w wk)
      (fun _ s6 _ => n - (intOf s6).toNat)
    case atStart => exact ⟨0, false, by omega, rfl, rfl, Lib.hid rfl, hbr2⟩
    case round =>
      obtain ⟨k, v, hk, rfl, rfl, HL, hbk⟩ := hrel
      obtain ⟨a0, a1⟩ := blk2 (hp_below HS1.out hbk)
      by_cases hlt : k < n
      · obtain ⟨b', off, x, HX, p0, hix⟩ := (hrow.below hbk).str hlt d'
        have hd : decide (k < n) = true := by simp; omega
        cases v
        · cases hq : eqS x s
          all_goals
            have HQ := Lib.hid hq
            have e2 := (eqS_def x s).trans hq
            clear hq
            go_wp2_with fail
            go_roundw
            case rel => exact ⟨k + 1, _, by omega, rfl, by go_num, Lib.hid (by have h := HL.out; rw [inSs_step HX.out, HQ.out] at h; exact h), hbk⟩
            case measure => simp [intOf]; omega
        · go_wp2_with fail
          go_roundw
          case rel => exact ⟨k + 1, true, by omega, rfl, by go_num, Lib.hid (by have h := HL.out; rw [← h]; rfl), hbk⟩
          case measure => simp [intOf]; omega
      · have hd : decide (k < n) = false := by simp; omega
        have HE : Hid (inSs st.2 s = v) := Lib.hid (by have h := HL.out; rw [List.drop_eq_nil_of_le (by have := R2.len; omega)] at h; rw [← h]; simp [inSs])
        cases v
        · go_wp2_with fail
          go_ret
          exact ⟨by rw [← HK.out HE.out, HS.out]; rfl, hbk⟩
        · go_wp2_with fail
          go_roundw
          case rel => exact ⟨i + 1, by have := HK2.out HE.out; omega, by go_num, hbk⟩
          case measure => have := HK2.out HE.out; simp [intOf]; omega
end Go.Proofs.YtfildbkkmnfekaaGreatDoor
namespace Go.Proofs.YtfildbkkmnfekaaGreatDoor
open Go.RowKit

set_option maxHeartbeats 1000000 in
set_option maxRecDepth 100000 in
theorem refmentioned_any (l : List Cls) (A : Option Addr) (n c : Nat) (w : World) (F : Nat → Prop) (hrow0 : RowL w F l A n) (hn : n < 2000000) (hnum : numL l < 2000000) :
    Calls Tryz.prog 81 #[.slice A n c] w fun e w' => ∃ gm, e = .returned (.pointer (some ⟨gm, 0, none⟩)) ∧ MenV w' gm (addL l ([], [])) ∧ Below w.heap.size w w' := by
  have hrow := hrow0.here
  clear hrow0
  obtain ⟨w1, hw1, hblk, hsz, hb1⟩ := alloc_facts w (.cells #[.slice none 0 0, .slice none 0 0] 96)
  have HM : Hid (MenV w1 w.heap.size ([], [])) := Lib.hid ⟨none, 0, 0, none, 0, 0, hblk, RowV.nil _ _ _ _ _, RowV.nil _ _ _ _ _, by omega, by unfold maxLen; omega, by omega, by unfold maxLen; omega⟩
  clear hblk
  go_enter Tryz.func81, Tryz.ntmps81
  go_wp2_with fail
  have HW := Lib.hid hw1; clear hw1
  go_loopw [4] (fun si wr => ∃ i : Nat, i ≤ n ∧ si = .int .i64 i ∧ ∃ sy, Hid (addL l ([], []) = addL (l.drop i) sy) ∧ MenV wr w.heap.size sy ∧ Hid (sy.1.length + numL (l.drop i) ≤ numL l ∧ sy.2.length + numL (l.drop i) ≤ numL l) ∧ Kept (· = w.heap.size) w1 wr)
    (fun si _ => n - (intOf si).toNat)
  case atStart => exact ⟨0, by omega, rfl, _, Lib.hid rfl, HM.out, Lib.hid ⟨by simp, by simp⟩, Kept.refl _ _⟩
  case round =>
    obtain ⟨i, hi, rfl, sy, HL, hmen, HN, hkr⟩ := hrel
    have hbw : Below w.heap.size w wr := hb1.trans (hkr.below (by omega) (by intro k hk e; omega))
    have HME := Lib.hid hmen
    clear hmen
    by_cases hlt : i < n
    · obtain ⟨b, off, ch, v0, v1, v2, v3, v4, v5, HX, hrc, p0, p1, p2, p3, p4, p5, hix⟩ := hrow.round hbw hlt c
      have hd : decide (i < n) = true := by simp; omega
      go_wp2_with fail
      refine (add_any w.heap.size ch _ _ _ sy hrc (Nat.le_refl _) HME.out (by have h1 := HN.out; have h2 := numL_step HX.out; omega) (by have h1 := HN.out; have h2 := numL_step HX.out; omega)).mono ?_
      rintro e w2 ⟨rfl, hm2, hk2⟩
      go_wp2_with fail
      go_roundw
      case rel => exact ⟨i + 1, by omega, by go_num, _, Lib.hid (by rw [HL.out, addL_step _ HX.out]), hm2, Lib.hid (by have h1 := HN.out; have h2 := numL_step HX.out; have h3 := addC_len ch sy; omega), hkr.trans hk2⟩
      case measure => simp [intOf]; omega
    · have hd : decide (i < n) = false := by simp; omega
      have hdn : l.drop i = [] := List.drop_eq_nil_of_le (by have := hrow.len; omega)
      have HE : Hid (addL l ([], []) = sy) := Lib.hid (by rw [HL.out, hdn, addL])
      clear hdn
      go_wp2_with fail
      go_ret
      exact ⟨w.heap.size, rfl, by rw [HE.out]; exact HME.out, hbw⟩
end Go.Proofs.YtfildbkkmnfekaaGreatDoor
namespace Go.Proofs.YtfildbkkmnfekaaGreatDoor
open Go.RowKit

theorem tailN_len_pos {n : Nat} (h : 0 < n) : tailN n ≠ [] := by
  rw [tailN_step h]; simp
theorem digit_inj {a b : Nat} (ha : a < 10) (hb : b < 10) (h : UInt8.ofNat (48 + a) = UInt8.ofNat (48 + b)) : a = b := by
  have h1 := congrArg UInt8.toNat h
  simp only [UInt8.toNat_ofNat'] at h1
  omega
theorem tailN_inj : ∀ (n m : Nat), tailN n = tailN m → n = m := by
  intro n
  induction n using Nat.strongRecOn with
  | _ n ih =>
    intro m h
    rcases Nat.eq_zero_or_pos n with hn | hn
    · subst hn
      rcases Nat.eq_zero_or_pos m with hm | hm
      · exact hm.symm
      · exact absurd (h.symm.trans (by simp [tailN])) (tailN_len_pos hm)
    · rcases Nat.eq_zero_or_pos m with hm | hm
      · subst hm
        exact absurd (h.trans (by simp [tailN])) (tailN_len_pos hn)
      · rw [tailN_step hn, tailN_step hm] at h
        obtain ⟨h1, h2⟩ := List.append_inj' h rfl
        have h3 := ih (n / 10) (by omega) (m / 10) h1
        have h4 := digit_inj (Nat.mod_lt _ (by omega)) (Nat.mod_lt _ (by omega)) (by simpa using h2)
        omega
theorem numB_inj {a : ByteArray} {n m : Nat} (h : numB a n = numB a m) : n = m := by
  unfold numB at h
  have h1 := congrArg (fun x => x.data.toList) h
  simp only [ByteArray.data_append, Array.toList_append] at h1
  exact tailN_inj _ _ (List.append_cancel_left h1)
theorem len_of_subset {α : Type} [DecidableEq α] : ∀ (l1 l2 : List α), l1.Nodup → (∀ x ∈ l1, x ∈ l2) → l1.length ≤ l2.length
  | [], l2, _, _ => by simp
  | x :: l1, l2, hn, hs => by
    have hx : x ∈ l2 := hs x (by simp)
    have h1 := len_of_subset l1 (l2.erase x) (List.nodup_cons.1 hn).2 (fun y hy => by
      have hne : y ≠ x := by rintro rfl; exact (List.nodup_cons.1 hn).1 hy
      exact (List.mem_erase_of_ne hne).2 (hs y (by simp [hy])))
    rw [List.length_erase_of_mem hx] at h1
    have : 0 < l2.length := List.length_pos_of_mem hx
    simp; omega
/-- Of things that are all different, one is not in a list. -/
theorem exists_free {α : Type} [DecidableEq α] (f : Nat → α) (hf : ∀ i j, f i = f j → i = j) (l : List α) : ∃ i, i ≤ l.length ∧ f i ∉ l := by
  apply Classical.byContradiction
  intro h
  have h2 : ∀ i, i ≤ l.length → f i ∈ l := fun i hi => Classical.byContradiction fun hn => h ⟨i, hi, hn⟩
  have h3 := len_of_subset ((List.range (l.length + 1)).map f) l (by
    rw [List.nodup_iff_pairwise_ne, List.pairwise_map]
    exact (List.nodup_iff_pairwise_ne.1 List.nodup_range).imp fun hne he => hne (hf _ _ he)) (by
    intro x hx
    obtain ⟨i, hi, rfl⟩ := List.mem_map.1 hx
    exact h2 i (by have := List.mem_range.1 hi; omega))
  simp at h3
  omega
/-- The first number that is not taken. -/
noncomputable def firstOf (taken : Nat → Bool) : Nat := Classical.epsilon (IsFirst taken)
theorem firstOf_spec {taken : Nat → Bool} {N : Nat} (h : ∃ i, i ≤ N ∧ taken i = false) : IsFirst taken (firstOf taken) ∧ firstOf taken ≤ N := by
  have hex : ∃ I, IsFirst taken I := by
    obtain ⟨i, hi⟩ : ∃ i, taken i = false := let ⟨i, _, hi⟩ := h; ⟨i, hi⟩
    clear h
    induction i using Nat.strongRecOn with
    | _ i ih =>
      by_cases hj : ∃ j, j < i ∧ taken j = false
      · obtain ⟨j, h1, h2⟩ := hj
        exact ih j h1 h2
      · refine ⟨i, hi, fun j hj' => ?_⟩
        cases ht : taken j with
        | true => rfl
        | false => exact absurd ⟨j, hj', ht⟩ hj
  have h1 : IsFirst taken (firstOf taken) := Classical.epsilon_spec hex
  refine ⟨h1, ?_⟩
  obtain ⟨i, hi, ht⟩ := h
  rcases Nat.lt_or_ge i (firstOf taken) with h2 | h2
  · rw [h1.2 i h2] at ht; cases ht
  · omega
theorem first_unique {taken : Nat → Bool} {I J : Nat} (h : IsFirst taken I) (k : IsFirst taken J) : I = J := by
  rcases Nat.lt_trichotomy I J with h1 | h1 | h1
  · have := k.2 I h1; rw [h.1] at this; cases this
  · exact h1
  · have := h.2 J h1; rw [k.1] at this; cases this
theorem takenN_iff (st l : List Nm) (a : ByteArray) (i : Nat) : takenN st l a i = true ↔ (a, numB xB i) ∈ st ++ l := by
  unfold takenN; rw [Bool.or_eq_true, inNs_iff, inNs_iff, List.mem_append]
theorem freeN (st l : List Nm) (a : ByteArray) : ∃ i, i ≤ (st ++ l).length ∧ takenN st l a i = false := by
  obtain ⟨i, h1, h2⟩ := exists_free (fun i => (a, numB xB i)) (fun i j h => numB_inj (Prod.mk.inj h).2) (st ++ l)
  refine ⟨i, h1, ?_⟩
  cases h : takenN st l a i with
  | false => rfl
  | true => exact absurd ((takenN_iff _ _ _ _).1 h) h2
theorem freeS (st : List ByteArray) : ∃ i, i ≤ st.length ∧ takenS st i = false := by
  obtain ⟨i, h1, h2⟩ := exists_free (fun i => numB uB i) (fun i j h => numB_inj h) st
  refine ⟨i, h1, ?_⟩
  cases h : takenS st i with
  | false => rfl
  | true => exact absurd ((inSs_iff _ _).1 h) h2
/-- The fresh name of a space; the new space; the candidates. -/
noncomputable def freshN (st l : List Nm) (a : ByteArray) : Nm := (a, numB xB (firstOf (takenN st l a)))
noncomputable def newS (st : List ByteArray) : ByteArray := numB uB (firstOf (takenS st))
noncomputable def candN (m : Men) (l : List Nm) : List Nm := m.1 ++ m.2.map (freshN m.1 l) ++ [freshN m.1 l (newS m.2)]
end Go.Proofs.YtfildbkkmnfekaaGreatDoor
