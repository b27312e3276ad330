/- known. -/
import Derived.Test.YtfildbkkmnfekaaGreatDoorItmA
import Derived.Test.YtfildbkkmnfekaaGreatDoorG26
import Derived.Test.YtfildbkkmnfekaaGreatDoorG09
import Derived.Test.YtfildbkkmnfekaaGreatDoorG29
import Derived.WalkKit
import Derived.Maps.Own
import Derived.Deep.RegionHeld3
import Derived.Deep.DeepFit
import Derived.WalkSpells
import Derived.WalkLawsBesides
import Derived.BigGuardPart
import Derived.Lib.Hide
import Derived.Deep.QuietTactic
import Derived.BigQuiet
import Derived.StillTailTactics
import Derived.Deep.DeepCutAuto
import Derived.Deep.CutBlock
import Derived.Laws.EntriesVeiled
namespace Go.Proofs.YtfildbkkmnfekaaGreatDoor
open Go.RowKit Go.Shelf Go.Sort

/-- The names that are mentioned (not those only to be avoided). -/
def namesOf (L : List (Nm × Bool)) : List Nm := (L.filter (·.2)).map (·.1)
def pick1 (L : List (Nm × Bool)) (i : Nat) : Option Nm := match L[i]? with
  | some (k, true) => some k
  | _ => none
def pickL (L : List (Nm × Bool)) (seen : List Nat) : List Nm := seen.filterMap (pick1 L)
theorem pickL_push {L : List (Nm × Bool)} {seen : List Nat} {i : Nat} {k : Nm} {v : Bool} (h : L[i]? = some (k, v)) : pickL L (seen ++ [i]) = pickL L seen ++ (if v then [k] else []) := by
  unfold pickL
  rw [List.filterMap_append]
  congr 1
  cases v <;> simp [pick1, h]
theorem pickL_range (L : List (Nm × Bool)) : pickL L (List.range L.length) = namesOf L := by
  unfold pickL namesOf
  induction L with
  | nil => rfl
  | cons p L ih =>
    obtain ⟨k, v⟩ := p
    have e : pick1 ((k, v) :: L) ∘ Nat.succ = pick1 L := by
      funext i; simp [pick1]
    rw [List.length_cons, List.range_succ_eq_map, List.filterMap_cons, List.filterMap_map, e, ih]
    cases v <;> simp [pick1]
theorem perm_range_of {seen : List Nat} {n : Nat} (h1 : seen.Nodup) (h2 : ∀ i ∈ seen, i < n) (h3 : ∀ i, i < n → i ∈ seen) : seen.Perm (List.range n) :=
  (List.perm_ext_iff_of_nodup h1 List.nodup_range).2 fun a => ⟨fun h => List.mem_range.2 (h2 a h), fun h => h3 a (List.mem_range.1 h)⟩
theorem seen_len {seen : List Nat} {n : Nat} (h1 : seen.Nodup) (h2 : ∀ i ∈ seen, i < n) : seen.length ≤ n := by
  have := len_of_subset seen (List.range n) h1 (fun x hx => List.mem_range.2 (h2 x hx))
  simpa using this
/-- What known returns: the names and the spaces, in order; the names lie below mid, the spaces' row from mid on. -/
def KnownPost (m : Ment) (w : World) (e : Ending) (w' : World) : Prop :=
  ∃ A n c ns v2 ts mid, e = .returned (.tuple #[.slice A n c, v2]) ∧ ns.Perm (namesOf m.1) ∧ ns.Pairwise (fun x y => ltN y x = false) ∧ RowV w' (fun b => w.heap.size ≤ b ∧ b < mid) 2 nmV ns A n ∧ n ≤ c ∧
    OwnV w' mid 9 1 strV ts v2 ∧ ts.Perm (m.2.map (·.1)) ∧ ts.Pairwise (fun x y => ltS y x = false) ∧ w.heap.size ≤ mid ∧ mid ≤ w'.heap.size ∧ Below w.heap.size w w'
def mkB (l : List UInt8) : ByteArray := ⟨l.toArray⟩
theorem strs_flat (ss : List (List UInt8)) : (ss.map mkB).flatMap strV = ss.map encStr := by
  induction ss with
  | nil => rfl
  | cons x l ih => rw [List.map_cons, List.flatMap_cons, ih, List.map_cons]; rfl
theorem own_strs {w : World} {base : Nat} {v : Value} {n : Nat} {ss : List (List UInt8)} (h : w.ownsRow base 9 1 v n (ss.map encStr)) (hn : n = ss.length) : OwnV w base 9 1 strV (ss.map mkB) v := by
  unfold OwnV
  rw [List.length_map, ← hn]
  rw [strs_flat]; exact h
theorem strs_sorted (ss : List (List UInt8)) : ((ss.mergeSort fun x y => decide (x ≤ y)).map mkB).Pairwise (fun x y => ltS y x = false) := by
  have h := List.pairwise_mergeSort (le := fun x y : List UInt8 => decide (x ≤ y)) (fun a b c h1 h2 => decide_eq_true (List.le_trans (of_decide_eq_true h1) (of_decide_eq_true h2))) (fun a b => by
    rcases List.le_total a b with h | h
    · simp [h]
    · simp [h]) ss
  rw [List.pairwise_map]
  refine h.imp fun {a b} h => ?_
  have := of_decide_eq_true h
  unfold ltS mkB
  simpa using this
theorem strs_perm {ss : List (List UInt8)} {L : List (ByteArray × Bool)} (h : ss.Perm (L.map fun p => p.1.data.toList)) : ((ss.mergeSort fun x y => decide (x ≤ y)).map mkB).Perm (L.map (·.1)) := by
  have h1 := ((List.mergeSort_perm ss fun x y => decide (x ≤ y)).trans h).map mkB
  rw [List.map_map] at h1
  exact h1
def leftOf (bi n : Nat) (w : World) : Nat := match w.heap[bi]? with
  | some (.mapIter _ _ seen _) => n - seen.size
  | _ => 0
theorem leftOf_eq {bi n m a b : Nat} {seen : Array Nat} {w : World} (h : w.heap[bi]? = some (.mapIter (some m) a seen b)) : leftOf bi n w = n - seen.size := by unfold leftOf; rw [h]
set_option maxHeartbeats 4000000 in
set_option maxRecDepth 100000 in
theorem known_any (g1 g2 : Nat) (m : Ment) (w : World) (hM : MapsAt w g1 g2 m) (hn1 : m.1.length < 1000000) (hn2 : m.2.length < 1000000) (hs2 : ∀ p ∈ m.2, p.1.size ≤ 1000000) (hk2 : NodupK m.2) :
    Calls Tryz.prog 76 #[.agg #[.map (some g1), .map (some g2)]] w (KnownPost m w) := by
  obtain ⟨w1, hw1, S1, hsz1, hb1⟩ := alloc_facts w (.cells #[.map (some g1), .map (some g2)] 66)
  have hm1 := hM.1.below hb1
  have hg1 := hM.1.lt
  obtain ⟨w2, hw2, S2, hsz2, hb2⟩ := alloc_facts w1 (.mapIter (some g1) m.1.length #[] m.1.length)
  have hrg : (Instr.range 64 (.map (some g1))).run Tryz.prog w1 = .ok (.pointer (some ⟨w1.heap.size, 0, none⟩)) w2 := by rw [← hw2]; exact run_range_map (kt := 24) (et := 4) (by kernel_rfl) hm1
  obtain ⟨a0, a1⟩ := blk2 S1
  have HS1 := Lib.hid (hp_below S1 hb2); have HS2 := Lib.hid S2; have HM1 := Lib.hid (hm1.below hb2); have HM2 := Lib.hid ((hM.2.below hb1).below hb2)
  have hgb : g1 ≠ w1.heap.size := by omega
  have HG2 : Hid (g2 < w.heap.size) := Lib.hid hM.2.lt
  have HW2 := Lib.hid hw2
  clear S1 S2 hM hm1 hw2
  go_enter Tryz.func76, Tryz.ntmps76
  go_wp2_with fail
  have HW1 := Lib.hid hw1
  clear hw1 hrg a0 a1
  go_loopw [4] (fun s4 wr => ∃ (seen : Array Nat) (l : List Nm), wr.heap[w1.heap.size]? = some (.mapIter (some g1) m.1.length seen m.1.length) ∧ OwnV wr w2.heap.size 24 2 nmV l s4 ∧ Hid (l = pickL m.1 seen.toList) ∧ Hid (seen.toList.Nodup ∧ ∀ i ∈ seen.toList, i < m.1.length) ∧ Kept (fun k => k = w1.heap.size ∨ w2.heap.size ≤ k) w2 wr)
    (fun _ wr => leftOf w1.heap.size m.1.length wr)
  case atStart => exact ⟨#[], [], HS2.out, OwnV.nil _ _ _ _ _, Lib.hid rfl, Lib.hid ⟨by simp, by simp⟩, Kept.refl _ _⟩
  case round =>
    obtain ⟨seen, l, hit, hov, HL, HN, hkr⟩ := hrel
    have hmr := HM1.out.keep (hkr.block g1 HM1.out.lt (by omega))
    have hszr := hkr.size
    have HIT := Lib.hid hit; have HOV := Lib.hid hov; have HMR := Lib.hid hmr; have HKR := Lib.hid hkr
    have HLB := Lib.hid (seen_len HN.out.1 HN.out.2)
    by_cases hu : ∃ i, i < m.1.length ∧ i ∉ seen
    · obtain ⟨i, k, v, d, hL, hns, hrun⟩ := run_next_more (P := Tryz.prog) hmr hit hu 0
      obtain ⟨w3, hw3⟩ : ∃ w3, { wr.drewN d with heap := wr.heap.setIfInBounds w1.heap.size (.mapIter (some g1) m.1.length (seen.push i) m.1.length) } = w3 := ⟨_, rfl⟩
      rw [hw3] at hrun
      have hlt1 : w1.heap.size < wr.heap.size := by omega
      have h3k : Kept (fun k => k = w1.heap.size) wr w3 := by
        rw [← hw3]; exact ⟨rfl, rfl, rfl, by simp, fun b _ hb => by simp [Ne.symm hb]⟩
      have h3i : w3.heap[w1.heap.size]? = some (.mapIter (some g1) m.1.length (seen.push i) m.1.length) := by rw [← hw3]; simp [hlt1]
      have hm3 := HMR.out.keep (h3k.block g1 HMR.out.lt hgb)
      have hent := run_entry (P := Tryz.prog) hm3 h3i hL
      obtain ⟨a, b⟩ := k
      have hent' : (Instr.entry (.pointer (some ⟨w1.heap.size, 0, none⟩))).run Tryz.prog w3 = .ok (.tuple #[.agg #[.string a, .string b], .bool v]) w3 := hent
      have hrun' : (Instr.next (.pointer (some ⟨w1.heap.size, 0, none⟩)) false 0).run Tryz.prog wr = .ok (.tuple #[.bool true, .agg #[.string a, .string b], .bool v]) w3 := hrun
      obtain ⟨w4, hw4, S4, hsz4, hb4⟩ := alloc_facts w3 (.cells #[.string a, .string b] 24)
      obtain ⟨r0, r1⟩ := blk2 S4
      have hrk3 : Kept (fun k => k = w1.heap.size ∨ w2.heap.size ≤ k) w2 w3 := HKR.out.trans ⟨h3k.os, h3k.tape, h3k.output, h3k.size, fun b hb hn => h3k.block b hb (fun e => hn (.inl e))⟩
      have hrk4 := hrk3.trans (Kept.of_below hb4)
      have hs3 : wr.heap.size ≤ w3.heap.size := h3k.size
      have hit4 := hp_below h3i hb4
      have hov3 : OwnV w3 w2.heap.size 24 2 nmV l u4 := HOV.out.grown fun k hk e => h3k.block k hk (by
        intro e2
        obtain ⟨h1, _⟩ := ownBlock_ge HOV.out k e
        omega)
      have HOV4 := Lib.hid (hov3.keep hb4); have HIT4 := Lib.hid hit4; have HK4 := Lib.hid hrk4
      have HL2 : Hid (∀ u, v = u → pickL m.1 (seen.push i).toList = l ++ (if u then [(a, b)] else [])) := Lib.hid (by
        intro u e; subst e
        rw [Array.toList_push, pickL_push hL, ← HL.out])
      have HN2 : Hid ((seen.push i).toList.Nodup ∧ ∀ j ∈ (seen.push i).toList, j < m.1.length) := Lib.hid (by
        rw [Array.toList_push]
        refine ⟨List.nodup_append.2 ⟨HN.out.1, by simp, ?_⟩, ?_⟩
        · intro x hx y hy e
          have hy' : y = i := by simpa using hy
          rw [e, hy'] at hx
          exact hns (by simpa using hx)
        · intro j hj
          rcases List.mem_append.1 hj with h | h
          · exact HN.out.2 j h
          · have : j = i := by simpa using h
            rw [this]; exact (List.getElem?_eq_some_iff.1 hL).1)
      have HLE : Hid (l.length ≤ m.1.length) := Lib.hid (by
        rw [HL.out]
        exact Nat.le_trans (List.length_filterMap_le _ _) HLB.out)
      have HLT : Hid (seen.size < m.1.length) := Lib.hid (by
        have := seen_len HN2.out.1 HN2.out.2
        rw [Array.toList_push, List.length_append, List.length_singleton] at this
        exact this)
      clear hrun hent hw3 hL hns hit hov hmr hkr h3k h3i hm3 S4 hrk3 hrk4 hit4 hov3 hu
      cases v
      · go_wp2_with fail
        go_roundw
        case rel => exact ⟨seen.push i, l, HIT4.out, HOV4.out, Lib.hid (by rw [HL2.out false rfl]; simp), HN2, HK4.out⟩
        case measure => rw [leftOf_eq HIT4.out, leftOf_eq HIT.out, Array.size_push]; have := HLT.out; omega
      · obtain ⟨w5, hw5, S5, hsz5, hb5⟩ := alloc_facts w4 (.cells #[.string a, .string b] 24)
        have HOV5 := Lib.hid (HOV4.out.keep hb5)
        have hsrc := Src.block (sz := 2) (m := 1) (vs := [(a, b)].flatMap nmV) S5 rfl
        have HSRC := Lib.hid hsrc
        have HIT5 := Lib.hid (hp_below HIT4.out hb5)
        have HK5 := Lib.hid (HK4.out.trans (Kept.of_below hb5))
        clear S5 hsrc
        go_wp2_with (first
          | (at_builtin; refine wpList_ownB rfl (.tmp 16) (.tmp 18) 48 rfl tyN nm_one w2.heap.size _ [(a, b)] _ rfl HOV5.out _ 1 1 rfl HSRC.out rfl (by have := HLE.out; omega) (by omega) ?_
             intro v6 w6 ho6 hb6)
          | fail)
        go_roundw
        case rel => exact ⟨seen.push i, l ++ [(a, b)], by rw [hb6.block _ (by omega)]; exact HIT5.out, ho6, Lib.hid (by rw [HL2.out true rfl]; simp), HN2, HK5.out.trans ⟨hb6.os, hb6.tape, hb6.output, hb6.size, fun k _ hn => hb6.block k (Nat.lt_of_not_le (fun h => hn (.inr h)))⟩⟩
        case measure => rw [leftOf_eq (show w6.heap[w1.heap.size]? = _ by rw [hb6.block _ (by omega)]; exact HIT5.out), leftOf_eq HIT.out, Array.size_push]; have := HLT.out; omega
    · have hall : ∀ i, i < m.1.length → i ∈ seen := fun i hi => by
        rcases Classical.em (i ∈ seen) with h | h
        · exact h
        · exact absurd ⟨i, hi, h⟩ hu
      have hrun := run_next_over (P := Tryz.prog) hmr hit hall 0
      have hpm : l.Perm (namesOf m.1) := by
        rw [HL.out, ← pickL_range]
        exact (perm_range_of HN.out.1 HN.out.2 (fun i hi => by simpa using hall i hi)).filterMap _
      have HPM := Lib.hid hpm
      have hll : l.length < 4000000 := by
        have h1 := hpm.length_eq
        have h2 : (namesOf m.1).length ≤ m.1.length := by unfold namesOf; rw [List.length_map]; exact List.length_filter_le _ _
        omega
      have HM2r := Lib.hid (HM2.out.keep (hkr.block g2 HM2.out.lt (by have := HG2.out; omega)))
      have HS1r := Lib.hid (hp_kept HS1.out hkr (by omega))
      clear hpm hall hu hov hmr hit hkr
      go_wp2_with fail
      refine (sortN_any w2.heap.size l u4 wr HOV.out hszr hll).mono ?_
      rintro e w3 ⟨rfl, ⟨A, c, ns, rfl, hp, hpw, hrow, hc⟩, hb3⟩
      have HM2s := Lib.hid (HM2r.out.keep (hb3.block g2 (by have := HG2.out; have := HM2.out.lt; omega)))
      obtain ⟨a0, a1⟩ := blk2 ((hb3.block _ (by omega)).trans HS1r.out)
      have hs3 := hb3.size
      have HROW := Lib.hid (hrow.both nm_len (by decide))
      have HP := Lib.hid (hp.trans HPM.out); have HPW := Lib.hid hpw
      obtain ⟨n, hn⟩ : ∃ n, ns.length = n := ⟨_, rfl⟩
      rw [hn] at hc HROW ⊢
      clear hp hpw hrow hn hrun
      go_wp2_with fail
      refine (callsIn_wide.1 (Tryz.maps_Keys_93 (some g2) w3)).mono ?_
      rintro e w4 ⟨rfl, rfl⟩
      go_wp2_with fail
      refine (callsIn_wide.1 (Tryz.slices_Sorted_keys_92_93 g2 m.2.length (keysD m.2) rdNil w3 (ownsMap_of HM2s.out hk2 (fun p hp => by have := hs2 p hp; unfold maxLen; omega) (by unfold maxLen; omega)) (by rw [keysD_size]; unfold maxLen; omega) (by rw [keysD_size]; omega))).mono ?_
      rintro e w5 ⟨v2, ss, rfl, hS, hown, hnil, hb5⟩
      have hb4 : Below w3.heap.size w3 (w3.alloc (.cells #[.map (some g2)] 61)) := (Below.refl _ _).alloc (Nat.le_refl _) _
      have hb35 := hb4.seq hb5
      have HOWN := Lib.hid (own_strs hown (by rw [List.length_mergeSort]))
      have HSP := Lib.hid (strs_perm (L := m.2) (hS.trans (keys_perm m.2 (fun p hp => by have := hs2 p hp; unfold maxLen; omega))))
      have hR5 : RowV w5 (fun b => w.heap.size ≤ b ∧ b < (w3.alloc (.cells #[.map (some g2)] 61)).heap.size) 2 nmV ns A n := HROW.out.keep (fun b hb => ⟨⟨by omega, by simp; omega⟩, hb35.block b hb.2⟩)
      have HR5 := Lib.hid hR5
      have HB := Lib.hid ((hb1.seq hb2).trans ((HKR.out.below (B := w.heap.size) (by omega) (by intro k hk; omega)).trans ((hb3.mono (by omega)).trans (hb35.mono (by omega)))))
      have HM5 := Lib.hid hb5.size
      clear hS hown hnil hR5 hb4
      go_wp2_with fail
      go_ret2
      exact ⟨A, n, c, ns, v2, _, _, rfl, HP.out, HPW.out, HR5.out, hc, HOWN.out, HSP.out, strs_sorted ss, by simp; omega, HM5.out, HB.out⟩
end Go.Proofs.YtfildbkkmnfekaaGreatDoor
