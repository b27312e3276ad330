/- The iterator over numbered names. -/
import Derived.Test.YtfildbkkmnfekaaGreatDoorRangeA
import Derived.Test.YtfildbkkmnfekaaGreatDoorNumA
import Derived.Test.YtfildbkkmnfekaaGreatDoorShelf
import Derived.RangeFuncNested
import Derived.RangeFuncBound
import Derived.RangeFuncCalls
import Derived.RangeFuncLeaves
import Derived.Shelf.Abstract
import Derived.Shelf.RegionOpen
import Derived.WalkKit
import Derived.OwnWalkIn
import Derived.TacticsInMore
import Derived.LoopNIn
import Derived.LoopIn
import Derived.Lib.Hide
import Derived.WalkSpells
import Derived.WalkLawsBesides
import Derived.Deep.DeepFit
import Derived.Lib.AppendIntMem
namespace Go.Proofs.YtfildbkkmnfekaaGreatDoor
open Go.RowKit Go.Shelf
attribute [local go_sem] Oper.semAt_some

/-- The library's table of powers of ten lies as it was laid. -/
def Tab (w : World) : Prop := Lib.TabIs Tryz.prog w "internal/strconv.uint64pow10" .u64 Lib.pow10Tab
theorem gTab : Tryz.prog.globalNamed "internal/strconv.uint64pow10" = some 1 := by kernel_rfl
theorem Tab.keep {w w' : World} (h : Tab w) (hb : w'.heap[1]? = w.heap[1]?) : Tab w' := by
  unfold Tab Lib.TabIs World.var? at *
  rw [gTab] at h ⊢
  simp only [Option.bind_some] at h ⊢
  rw [hb]; exact h
theorem Tab.lt {w : World} (h : Tab w) : 1 < w.heap.size := by
  unfold Tab Lib.TabIs World.var? at h
  rw [gTab] at h
  simp only [Option.bind_some] at h
  rcases Nat.lt_or_ge 1 w.heap.size with hl | hl
  · exact hl
  · rw [Array.getElem?_eq_none hl] at h; cases h
theorem Tab.below {w w' : World} (h : Tab w) (hb : Below w.heap.size w w') : Tab w' := h.keep (hb.block 1 h.lt)
theorem numB_zero (a : ByteArray) : numB a 0 = a := by
  unfold numB tailN
  rw [if_pos rfl]
  apply ByteArray.ext
  rw [ByteArray.data_append]; simp
theorem itoa_any (i : Nat) (h1 : 1 ≤ i) (hi : i < 1000000000) (w : World) (hT : Tab w) :
    Calls Tryz.prog 105 #[.int .i64 i] w fun e w' => e = .returned (.string ⟨(tailN i).toArray⟩) ∧ Below w.heap.size w w' := by
  refine (Tryz.strconv_Itoa i (by omega) (by omega) w hT).mono ?_
  rintro e w' ⟨rfl, k, os, rfl⟩
  refine ⟨?_, Go.Lib.below_grow _ w (Nat.le_refl _) k os⟩
  have : Lib.itoa (i : Int) = tailN i := by
    unfold Lib.itoa tailN
    rw [if_neg (by omega), if_neg (by omega)]
    simp
  rw [this]
theorem numbered_any (a : ByteArray) (w : World) :
    Calls Tryz.prog 94 #[.string a] w fun e w' => e = .returned (.func (.func 104) #[] #[.pointer (some ⟨w.heap.size, 0, none⟩)]) ∧ w'.heap[w.heap.size]? = some (.cells #[.string a] 9) ∧ Below w.heap.size w w' := by
  go_enter Tryz.func94, Tryz.ntmps94
  go_wp2
  go_ret
  exact ⟨rfl, heap_alloc_new _ _, (Below.refl _ _).alloc (Nat.le_refl _) _⟩
theorem tailN_len_le (n : Nat) : (tailN n).length ≤ n := by
  induction n using Nat.strongRecOn with
  | _ n ih =>
    rcases Nat.eq_zero_or_pos n with h | h
    · subst h; simp [tailN]
    · rw [tailN_step h, List.length_append, List.length_singleton]
      have := ih (n / 10) (by omega)
      omega
theorem yield_bool {e : Ending} {A C : Prop} (h : (e = .returned (.bool true) ∧ A) ∨ (e = .returned (.bool false) ∧ C)) : ∃ v : Bool, e = .returned (.bool v) ∧ Hid (v = true → A) ∧ Hid (v = false → C) := by
  rcases h with ⟨h, a⟩ | ⟨h, c⟩
  · exact ⟨true, h, Lib.hid (fun _ => a), Lib.hid (fun h => by cases h)⟩
  · exact ⟨false, h, Lib.hid (fun h => by cases h), Lib.hid (fun _ => c)⟩
def numsTo (a : ByteArray) (k : Nat) : List ByteArray := (List.range k).map (numB a)
theorem numsTo_snoc (a : ByteArray) (k : Nat) : numsTo a (k + 1) = numsTo a k ++ [numB a k] := by
  unfold numsTo; rw [List.range_succ, List.map_append]; rfl
theorem numsTo_len (a : ByteArray) (k : Nat) : (numsTo a k).length = k := by unfold numsTo; simp
set_option maxHeartbeats 1000000 in
set_option maxRecDepth 100000 in
theorem num_iter (a : ByteArray) (bl N : Nat) (X : Nat → Prop) (w0 : World) (hbl : w0.heap[bl]? = some (.cells #[.string a] 9)) (hT : Tab w0) (hXb : ¬ X bl) (hXt : ¬ X 1) (hN : N < 100000000) (ha : a.size < 1000000) :
    IterC Tryz.prog 104 #[.pointer (some ⟨bl, 0, none⟩)] (fun s : ByteArray => #[.string s]) X (fun _ => False) (fun pre => pre = numsTo a pre.length) (fun pre => pre.length < N) w0 := by
  intro n l J Jx W hk hB h1 h0 hY hJ
  have HB := Lib.hid hB; have H1 := Lib.hid h1; have HY := Lib.hid hY
  clear hB h1 hY
  have S0 := hp_kept hbl hk hXb
  have HT := Lib.hid (hT.keep (hk.block 1 hT.lt hXt))
  have hlt := hp_lt S0
  have c0 := blk1 S0
  have HS0 := Lib.hid S0
  clear S0
  have hz := numB_zero a
  refine callsIn_of_wp Tryz.func104 rfl trivial ?_ rfl
  simp only [Tryz.ntmps104, List.size_toArray, List.length_cons, List.length_nil, Nat.reduceAdd, Nat.reduceSub, Array.replicate_succ, Array.replicate_zero, List.push_toArray, List.append_toArray, List.nil_append, List.cons_append]
  obtain ⟨f1, t1, a1, b1, hy1, hR1⟩ := HY.out (n - 1) W.heap.size [] (numB a 0) W hJ (by simp [numsTo]) (Nat.le_refl _) (Nat.le_refl _)
  rw [hz] at hy1
  dsimp only at hy1
  have HZ := Lib.hid hz
  clear hz hk
  gi_wp2
  refine ⟨(fun h => by cases h), hR1.mono ?_⟩
  rintro e W1 (⟨rfl, hJ1, hk1⟩ | ⟨rfl, hx1⟩)
  · clear hR1 hy1 c0
    gi_wp2
    gi_loopw [3] (fun s3 wr => ∃ i hi : Nat, s3 = .int .i64 i ∧ 1 ≤ i ∧ i < N ∧ J hi (numsTo a i) wr ∧ W.heap.size ≤ hi ∧ hi ≤ wr.heap.size ∧ Kept (fun k => (k < W.heap.size ∧ X k) ∨ W.heap.size ≤ k) W wr)
      (fun s3 _ => N - (intOf s3).toNat)
    case atStart => exact ⟨1, W.heap.size, rfl, by omega, by have := HB.out _ _ _ hJ1; simpa using this, by rw [numsTo_snoc]; exact hJ1, Nat.le_refl _, hk1.size, hk1⟩
    case round =>
      obtain ⟨i, hi, rfl, hi1, hiN, hJr, hlo, hhi, hkr⟩ := hrel
      have S0 := hp_kept HS0.out hkr (by rintro (⟨_, h⟩ | h); exact hXb h; omega)
      have c0 := blk1 S0
      have HTr := Lib.hid (HT.out.keep (hkr.block 1 HT.out.lt (by rintro (⟨_, h⟩ | h); exact hXt h; exact absurd HT.out.lt (by omega))))
      have hmx : Tryz.prog.follows .mixedOrders = true := by kernel_rfl
      have HSr := Lib.hid S0
      have hL : decide (9223372036854775807 < a.size + (tailN i).length) = false := by have := tailN_len_le i; simp; omega
      have hnb : (a ++ ⟨(tailN i).toArray⟩ : ByteArray) = numB a i := rfl
      have HNB := Lib.hid hnb
      clear hnb
      clear S0
      gi_wp2
      have hL2 : ¬ (9223372036854775807 < a.size + (tailN i).length) := by have := tailN_len_le i; omega
      have hL3 : a.size + (tailN i).length ≤ 9223372036854775807 := by omega
      have hL4 : decide ((9223372036854775807 : Int) < (a.size : Int) + ((tailN i).length : Int)) = false := by simp; omega
      gi_region_with_o (first
        | (refine ⟨trivial, (fun h => by cases h), ?_⟩; gi_at_call 105; refine (callsIn_wide.2 (itoa_any i hi1 (by omega) wr.drew (show Tab wr.drew from HTr.out))).mono ?_; rintro e w2 ⟨rfl, hb2⟩; have c2 := blk1 (hp_below (w := wr.drew) HSr.out hb2)
           have hJ2 := H1.out hi _ wr w2 hJr hlo hhi (Kept.of_below (a := wr) ⟨hb2.os, hb2.tape, hb2.output, hb2.size, hb2.block⟩)
           obtain ⟨f2, t2, a2, b2, hy2, hR2⟩ := HY.out (n - 1) hi (numsTo a i) (numB a i) w2 hJ2 (by rw [← numsTo_snoc, numsTo_len]) hlo (Nat.le_trans hhi (show wr.heap.size ≤ w2.heap.size from hb2.size))
           rw [← HNB.out] at hy2
           (try dsimp only at hy2))
        | (refine ⟨(fun h => by cases h), (hR2.mono (fun e B h => yield_bool h)).mono ?_⟩; rintro e w3 ⟨v, rfl, h3t, h3f⟩; clear hR2 hy2))
      all_goals
        have hkr2 : Kept (fun k => (k < W.heap.size ∧ X k) ∨ W.heap.size ≤ k) W w2 := hkr.trans (Kept.of_below (a := wr) ⟨hb2.os, hb2.tape, hb2.output, hb2.size, hb2.block⟩)
        have HKR2 := Lib.hid hkr2
        have HSZ := Lib.hid (show wr.heap.size ≤ w2.heap.size from hb2.size)
        clear hb2 hkr2 c0 c2 hkr
        cases v
        · have hx := h3f.out rfl
          have HX := Lib.hid hx
          clear hx h3t h3f
          gi_wp2
          go_end0
          exact ⟨⟨_, rfl⟩, .inr ⟨_, by rw [← numsTo_snoc, numsTo_len], HX.out⟩⟩
        · obtain ⟨hJ3, hk3⟩ := h3t.out rfl
          have HJ3 := Lib.hid hJ3; have HK3 := Lib.hid hk3
          clear hJ3 hk3 h3t h3f
          gi_wp2
          go_roundw
          case rel => exact ⟨i + 1, hi, by go_num, by omega, by have := HB.out _ _ _ HJ3.out; rw [← numsTo_snoc, numsTo_len] at this; exact this, by rw [numsTo_snoc]; exact HJ3.out, hlo, Nat.le_trans (Nat.le_trans hhi HSZ.out) HK3.out.size, HKR2.out.trans (keptImp HK3.out fun k h => h.imp id (fun h => Nat.le_trans hlo h))⟩
          case measure => simp [intOf]; omega
  · gi_wp2
    refine bodyPost_ret (results_none rfl _ _ _) rfl ?_
    exact ⟨⟨_, rfl⟩, .inr ⟨_, rfl, hx1⟩⟩
end Go.Proofs.YtfildbkkmnfekaaGreatDoor
