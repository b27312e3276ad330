/- putName, putSpace. putSpace. -/
import Derived.Test.YtfildbkkmnfekaaGreatDoorOrdA
import Derived.Test.YtfildbkkmnfekaaGreatDoorAppA
import Derived.WalkKit
import Derived.WalkSpells
import Derived.WalkLawsBesides
import Derived.BigGuardPart
import Derived.Lib.Hide
import Derived.Deep.QuietTactic
import Derived.BigQuiet
import Derived.StillTailTactics
import Derived.Deep.DeepCutAuto
import Derived.Deep.CutBlock
import Derived.Laws.EntriesVeiled
namespace Go.Proofs.YtfildbkkmnfekaaGreatDoor
open Go.RowKit

def kOf {α : Type} (lt : α → α → Bool) (x : α) : List α → Nat
  | [] => 0
  | y :: l => if lt y x then kOf lt x l + 1 else 0
theorem kOf_le {α : Type} (lt : α → α → Bool) (x : α) (l : List α) : kOf lt x l ≤ l.length := by
  induction l with
  | nil => simp [kOf]
  | cons y l ih => rw [kOf]; split <;> simp <;> omega
theorem kOf_step {α : Type} {lt : α → α → Bool} {x y : α} {l : List α} {i : Nat} (h : l[i]? = some y) : kOf lt x (l.drop i) = if lt y x then kOf lt x (l.drop (i + 1)) + 1 else 0 := by
  obtain ⟨hi, rfl⟩ := List.getElem?_eq_some_iff.1 h
  rw [List.drop_eq_getElem_cons hi, kOf]
/-- An element into an ascending list, once. -/
def putA {α : Type} (lt eq : α → α → Bool) (x : α) (l : List α) : List α :=
  match l[kOf lt x l]? with
  | some y => if eq y x then l else l.take (kOf lt x l) ++ x :: l.drop (kOf lt x l)
  | none => l.take (kOf lt x l) ++ x :: l.drop (kOf lt x l)
theorem putA_here {α : Type} {lt eq : α → α → Bool} {x y : α} {l : List α} {i : Nat} (hk : kOf lt x l = i) (h : l[i]? = some y) (he : eq y x = true) : putA lt eq x l = l := by
  unfold putA; rw [hk, h]; simp [he]
theorem putA_new {α : Type} {lt eq : α → α → Bool} {x y : α} {l : List α} {i : Nat} (hk : kOf lt x l = i) (h : l[i]? = some y) (he : eq y x = false) : putA lt eq x l = [] ++ l.take i ++ [x] ++ l.drop i := by
  unfold putA; rw [hk, h]; simp [he]
theorem putA_end {α : Type} {lt eq : α → α → Bool} {x : α} {l : List α} {i : Nat} (hk : kOf lt x l = i) (h : l.length ≤ i) : putA lt eq x l = [] ++ l.take i ++ [x] ++ l.drop i := by
  unfold putA; rw [hk, List.getElem?_eq_none h]; simp
def eqN (x y : Nm) : Bool := eqS x.1 y.1 && eqS x.2 y.2
def putN (l : List Nm) (x : Nm) : List Nm := putA ltN eqN x l
def putS (l : List ByteArray) (x : ByteArray) : List ByteArray := putA ltS eqS x l
set_option maxHeartbeats 1000000 in
set_option maxRecDepth 100000 in
theorem putName_any (a b : ByteArray) (l : List Nm) (A : Option Addr) (n c : Nat) (w : World) (F : Nat → Prop) (hrow0 : RowV w F 2 nmV l A n) (hn : n < 2000000) (hnc : n ≤ c) (hc : c ≤ maxLen) :
    Calls Tryz.prog 106 #[.slice A n c, .agg #[.string a, .string b]] w fun e w' => ∃ A' n' c', e = .returned (.slice A' n' c') ∧ RowV w' (fun b => (F b ∨ w.heap.size ≤ b) ∧ b < w'.heap.size) 2 nmV (putN l (a, b)) A' n' ∧ n' ≤ c' ∧ c' ≤ maxLen ∧ Below w.heap.size w w' := by
  have hrow := hrow0.here nmV_ne
  have hboth := Lib.hid (hrow0.both nm_len (by decide))
  obtain ⟨w1, hw1, hblk, hsz, hb1⟩ := alloc_facts w (.cells #[.string a, .string b] 24)
  have HB := Lib.hid hblk; clear hblk hrow0
  obtain ⟨K, hK⟩ : ∃ K, kOf ltN (a, b) l = K := ⟨_, rfl⟩
  have hKl : K ≤ n := by have := kOf_le ltN (a, b) l; have := hrow.len; omega
  have HK := Lib.hid hK; clear hK
  have heq := run_eql_name
  go_enter Tryz.func106, Tryz.ntmps106
  go_wp2_with fail
  have HW := Lib.hid hw1; clear hw1
  go_loopw [5] (fun si wr => ∃ i : Nat, i ≤ n ∧ si = .int .i64 i ∧ Hid (kOf ltN (a, b) (l.drop i) + i = K) ∧ Below w1.heap.size w1 wr)
    (fun si _ => n - (intOf si).toNat)
  case atStart => exact ⟨0, by omega, rfl, HK, Below.refl _ _⟩
  case round =>
    obtain ⟨i, hi, rfl, HL, hbr⟩ := hrel
    obtain ⟨n0, n1⟩ := blk2 (hp_below HB.out hbr)
    have hbw := hb1.seq hbr
    by_cases hlt : i < n
    · obtain ⟨b', off, x, y, HX, p0, p1, hix⟩ := (hrow.below hbw).name hlt c
      have hd : decide (i < n) = true := by simp; omega
      go_wp2_with fail
      go_still_tail 10, (by kernel_rfl)
      change wpList _ _ _ _ _ wr.drew
      go_wp2_with fail
      refine (lessR_any x y a b _).mono ?_
      rintro e w2 ⟨rfl, hb2⟩
      have hbr2 := hbr.trans ((Below.drew1 hb2).mono hbr.size)
      cases hv : ltN (x, y) (a, b)
      · have HV := Lib.hid hv; clear hv
        have hki : Hid (kOf ltN (a, b) l = i) := Lib.hid (by have h := HL.out; rw [kOf_step HX.out, if_neg (by rw [HV.out]; decide)] at h; rw [HK.out]; omega)
        obtain ⟨m0, m1⟩ := blk2 (hp_below HB.out hbr2)
        obtain ⟨b'', off', x', y', HX', q0, q1, hix'⟩ := (hrow.below (hb1.seq hbr2)).name hlt c
        obtain ⟨rfl, rfl⟩ : x' = x ∧ y' = y := by have h := HX'.out.symm.trans HX.out; simpa using h
        clear p0 p1 hix n0 n1
        have hbw2 := hb1.seq hbr2
        have hE := heq x' y' a b
        cases hq : (eqS x' a && eqS y' b)
        · have HQ := Lib.hid hq
          go_wp2_with fail
          go_quiet (fail)
          obtain ⟨W, hw0⟩ : ∃ W, World.drewN w2 nq = W := ⟨_, rfl⟩
          rw [hw0]
          have hbW : Below w1.heap.size w1 W := by rw [← hw0]; exact (hbr2).drewN _
          clear hw0
          obtain ⟨W1, hW1, hblk1, hsz1, hb2⟩ := alloc_facts W (.cells #[] 24)
          have hbW1 := hbW.seq hb2
          have ho := OwnV.fresh (cells := nmV) (sz := 2) hblk1 hbW.size
          have hrow1 : RowV w1 (· < w1.heap.size) 2 nmV l A n := (hrow.below hb1).keep fun b hb => ⟨Nat.lt_of_lt_of_le hb hb1.size, rfl⟩
          have hs := (hrow1.below hbW1).src nm_len (by decide) i hi
          have HLN := Lib.hid hrow.len
          clear hblk1
          obtain ⟨A2, hA2⟩ : ∃ A2, (if c = i then A else A.map (·.add (i * 2))) = A2 := ⟨_, rfl⟩
          have HA2 := Lib.hid hA2
          clear hA2
          go_wp2_with (first
            | (refine wpList_hiT rfl (.tmp 35) (.tmp 36) 48 rfl tyN A n c i rfl rfl (by omega) ?_)
            | (refine wpList_loT rfl (.tmp 44) (.tmp 45) 48 rfl tyN A n c i rfl rfl (by omega) A2 HA2.out ?_)
            | (at_builtin; refine wpList_ownB rfl (.tmp 34) (.tmp 37) 48 rfl tyN nm_one w1.heap.size [] (l.take i) _ rfl ho A i c rfl hs (by have := HLN.out; rw [List.length_take]; omega) (by have := HLN.out; simp; omega) (by have := hbW1.size; omega) ?_
               intro v1 u1 ho1 hc1
               have hbu1 := hbW1.trans hc1
               obtain ⟨u2, hu2, hblk2, hsz2, hb3⟩ := alloc_facts u1 (.cells #[.string a, .string b] 24)
               have hbu2 := hbu1.seq hb3
               have ho2 := ho1.keep hb3
               have hs2 := Src.block (sz := 2) (m := 1) (vs := [(a, b)].flatMap nmV) hblk2 rfl
               obtain ⟨r0, r1⟩ := blk2 (hp_below HB.out hbu1)
               clear hblk2)
            | (at_builtin; refine wpList_ownB rfl (.tmp 39) (.tmp 41) 48 rfl tyN nm_one w1.heap.size _ [(a, b)] v1 rfl ho2 _ 1 1 rfl hs2 rfl (by have := HLN.out; rw [List.nil_append, List.length_take]; omega) (by have := hbu2.size; omega) ?_
               intro v2 u3 ho3 hc3
               have hbu3 := hbu2.trans hc3
               have hs3 := (hrow1.below hbu3).src_from nm_len (by decide) i c hi hnc
               rw [HA2.out] at hs3)
            | (at_builtin; refine wpList_ownB rfl (.tmp 43) (.tmp 46) 48 rfl tyN nm_one w1.heap.size _ (l.drop i) v2 rfl ho3 _ (n - i) (c - i) rfl hs3 (by have := HLN.out; rw [List.length_drop]; omega) (by have := HLN.out; simp; omega) (by have := hbu3.size; omega) ?_
               intro v3 u4 ho4 hc4
               have hbu4 := hbu3.trans hc4)
            | fail)
          go_ret
          rw [show putN l (a, b) = _ from putA_new hki.out HX'.out HQ.out]
          obtain ⟨A', c', hv, hr', h1, h2⟩ := ho4.row nm_len (by decide)
          exact ⟨A', _, c', by rw [hv]; rfl, hr'.imp fun b hb => ⟨.inr (Nat.le_trans hb1.size hb.1), hb.2⟩, h1, h2, hb1.seq hbu4⟩
        · have HQ := Lib.hid hq
          go_wp2_with fail
          go_quiet (fail)
          obtain ⟨W, hw0⟩ : ∃ W, World.drewN w2 nq = W := ⟨_, rfl⟩
          rw [hw0]
          have hbW : Below w1.heap.size w1 W := by rw [← hw0]; exact (hbr2).drewN _
          clear hw0
          go_wp2_with fail
          go_ret
          exact ⟨A, n, c, rfl, by rw [show putN l (a, b) = l from putA_here hki.out HX'.out HQ.out]; exact hboth.out.keep fun b hb => ⟨⟨.inl hb.1, Nat.lt_of_lt_of_le hb.2 (hb1.seq hbW).size⟩, (hb1.seq hbW).block b hb.2⟩, hnc, hc, hb1.seq hbW⟩
      · have HV := Lib.hid hv; clear hv
        go_wp2_with fail
        go_roundw
        case rel => exact ⟨i + 1, by omega, by go_num, Lib.hid (by have h := HL.out; rw [kOf_step HX.out, if_pos HV.out] at h; omega), hbr2⟩
        case measure => simp [intOf]; omega
    · have hd : decide (i < n) = false := by simp; omega
      have hki : Hid (kOf ltN (a, b) l = i) := Lib.hid (by have h := HL.out; have h2 := hrow.len; rw [List.drop_eq_nil_of_le (by omega)] at h; simp only [kOf] at h; rw [HK.out]; omega)
      go_wp2_with fail
      go_quiet (fail)
      obtain ⟨Wr, hw0⟩ : ∃ W, World.drewN wr nq = W := ⟨_, rfl⟩
      rw [hw0]
      have hbWr : Below w1.heap.size w1 Wr := by rw [← hw0]; exact (hbr).drewN _
      clear hw0
      go_wp2_with fail
      go_quiet (fail)
      obtain ⟨W, hw0⟩ : ∃ W, World.drewN Wr nq = W := ⟨_, rfl⟩
      rw [hw0]
      have hbW : Below w1.heap.size w1 W := by rw [← hw0]; exact (hbWr).drewN _
      clear hw0
      obtain ⟨W1, hW1, hblk1, hsz1, hb2⟩ := alloc_facts W (.cells #[] 24)
      have hbW1 := hbW.seq hb2
      have ho := OwnV.fresh (cells := nmV) (sz := 2) hblk1 hbW.size
      have hrow1 : RowV w1 (· < w1.heap.size) 2 nmV l A n := (hrow.below hb1).keep fun b hb => ⟨Nat.lt_of_lt_of_le hb hb1.size, rfl⟩
      have hs := (hrow1.below hbW1).src nm_len (by decide) i hi
      have HLN := Lib.hid hrow.len
      clear hblk1
      obtain ⟨A2, hA2⟩ : ∃ A2, (if c = i then A else A.map (·.add (i * 2))) = A2 := ⟨_, rfl⟩
      have HA2 := Lib.hid hA2
      clear hA2
      go_wp2_with (first
        | (refine wpList_hiT rfl (.tmp 35) (.tmp 36) 48 rfl tyN A n c i rfl rfl (by omega) ?_)
        | (refine wpList_loT rfl (.tmp 44) (.tmp 45) 48 rfl tyN A n c i rfl rfl (by omega) A2 HA2.out ?_)
        | (at_builtin; refine wpList_ownB rfl (.tmp 34) (.tmp 37) 48 rfl tyN nm_one w1.heap.size [] (l.take i) _ rfl ho A i c rfl hs (by have := HLN.out; rw [List.length_take]; omega) (by have := HLN.out; simp; omega) (by have := hbW1.size; omega) ?_
           intro v1 u1 ho1 hc1
           have hbu1 := hbW1.trans hc1
           obtain ⟨u2, hu2, hblk2, hsz2, hb3⟩ := alloc_facts u1 (.cells #[.string a, .string b] 24)
           have hbu2 := hbu1.seq hb3
           have ho2 := ho1.keep hb3
           have hs2 := Src.block (sz := 2) (m := 1) (vs := [(a, b)].flatMap nmV) hblk2 rfl
           obtain ⟨r0, r1⟩ := blk2 (hp_below HB.out hbu1)
           clear hblk2)
        | (at_builtin; refine wpList_ownB rfl (.tmp 39) (.tmp 41) 48 rfl tyN nm_one w1.heap.size _ [(a, b)] v1 rfl ho2 _ 1 1 rfl hs2 rfl (by have := HLN.out; rw [List.nil_append, List.length_take]; omega) (by have := hbu2.size; omega) ?_
           intro v2 u3 ho3 hc3
           have hbu3 := hbu2.trans hc3
           have hs3 := (hrow1.below hbu3).src_from nm_len (by decide) i c hi hnc
           rw [HA2.out] at hs3)
        | (at_builtin; refine wpList_ownB rfl (.tmp 43) (.tmp 46) 48 rfl tyN nm_one w1.heap.size _ (l.drop i) v2 rfl ho3 _ (n - i) (c - i) rfl hs3 (by have := HLN.out; rw [List.length_drop]; omega) (by have := HLN.out; simp; omega) (by have := hbu3.size; omega) ?_
           intro v3 u4 ho4 hc4
           have hbu4 := hbu3.trans hc4)
        | fail)
      go_ret
      rw [show putN l (a, b) = _ from putA_end hki.out (by have := hrow.len; omega)]
      obtain ⟨A', c', hv, hr', h1, h2⟩ := ho4.row nm_len (by decide)
      exact ⟨A', _, c', by rw [hv]; rfl, hr'.imp fun b hb => ⟨.inr (Nat.le_trans hb1.size hb.1), hb.2⟩, h1, h2, hb1.seq hbu4⟩
end Go.Proofs.YtfildbkkmnfekaaGreatDoor
namespace Go.Proofs.YtfildbkkmnfekaaGreatDoor
open Go.RowKit

set_option maxHeartbeats 1000000 in
set_option maxRecDepth 100000 in
theorem putSpace_any (s : ByteArray) (l : List ByteArray) (A : Option Addr) (n c : Nat) (w : World) (F : Nat → Prop) (hrow0 : RowV w F 1 strV l A n) (hn : n < 2000000) (hnc : n ≤ c) (hc : c ≤ maxLen) :
    Calls Tryz.prog 107 #[.slice A n c, .string s] w fun e w' => ∃ A' n' c', e = .returned (.slice A' n' c') ∧ RowV w' (fun b => (F b ∨ w.heap.size ≤ b) ∧ b < w'.heap.size) 1 strV (putS l s) A' n' ∧ n' ≤ c' ∧ c' ≤ maxLen ∧ Below w.heap.size w w' := by
  have hrow := hrow0.here strV_ne
  have hboth := Lib.hid (hrow0.both str_len (by decide))
  clear hrow0
  obtain ⟨K, hK⟩ : ∃ K, kOf ltS s l = K := ⟨_, rfl⟩
  have hKl : K ≤ n := by have := kOf_le ltS s l; have := hrow.len; omega
  have HK := Lib.hid hK; clear hK
  go_enter Tryz.func107, Tryz.ntmps107
  go_wp2_with fail
  go_loopw [5] (fun si wr => ∃ i : Nat, i ≤ n ∧ si = .int .i64 i ∧ Hid (kOf ltS s (l.drop i) + i = K) ∧ Below w.heap.size w wr)
    (fun si _ => n - (intOf si).toNat)
  case atStart => exact ⟨0, by omega, rfl, HK, Below.refl _ _⟩
  case round =>
    obtain ⟨i, hi, rfl, HL, hbr⟩ := hrel
    by_cases hlt : i < n
    · obtain ⟨b', off, x, HX, p0, hix⟩ := (hrow.below hbr).str hlt c
      have hd : decide (i < n) = true := by simp; omega
      cases hv : ltS x s
      · have HV := Lib.hid hv
        have hki : Hid (kOf ltS s l = i) := Lib.hid (by have h := HL.out; rw [kOf_step HX.out, if_neg (by rw [HV.out]; decide)] at h; rw [HK.out]; omega)
        have e1 : Op.bytesLess x.toList s.toList = false := (bytesLess_ltS x s).trans hv
        clear hv
        cases hq : eqS x s
        · have HQ := Lib.hid hq
          have e2 : (x.toList == s.toList) = false := (eqS_def x s).trans hq
          clear hq
          go_upto_region 6 with fail
          obtain ⟨W, hw0⟩ : ∃ W, wr = W := ⟨_, rfl⟩
          rw [hw0]
          have hbW : Below w.heap.size w W := by rw [← hw0]; exact hbr
          clear hw0
          obtain ⟨W1, hW1, hblk1, hsz1, hb2⟩ := alloc_facts W (.cells #[] 9)
          have hbW1 := hbW.seq hb2
          have ho := OwnV.fresh (cells := strV) (sz := 1) hblk1 hbW.size
          have hrow1 := hrow
          have hs := (hrow1.below hbW1).src str_len (by decide) i hi
          have HLN := Lib.hid hrow.len
          clear hblk1
          obtain ⟨A2, hA2⟩ : ∃ A2, (if c = i then A else A.map (·.add (i * 1))) = A2 := ⟨_, rfl⟩
          have HA2 := Lib.hid hA2
          clear hA2
          go_wp2_with (first
            | (refine wpList_hiT rfl (.tmp 35) (.tmp 36) 87 rfl tyS A n c i rfl rfl (by omega) ?_)
            | (refine wpList_loT rfl (.tmp 44) (.tmp 45) 87 rfl tyS A n c i rfl rfl (by omega) A2 HA2.out ?_)
            | (at_builtin; refine wpList_ownB rfl (.tmp 34) (.tmp 37) 87 rfl tyS str_one w.heap.size [] (l.take i) _ rfl ho A i c rfl hs (by have := HLN.out; rw [List.length_take]; omega) (by have := HLN.out; simp; omega) (by have := hbW1.size; omega) ?_
               intro v1 u1 ho1 hc1
               have hbu1 := hbW1.trans hc1
               obtain ⟨u2, hu2, hblk2, hsz2, hb3⟩ := alloc_facts u1 (.cells #[.string s] 9)
               have hbu2 := hbu1.seq hb3
               have ho2 := ho1.keep hb3
               have hs2 := Src.block (sz := 1) (m := 1) (vs := [s].flatMap strV) hblk2 rfl
               clear hblk2)
            | (at_builtin; refine wpList_ownB rfl (.tmp 39) (.tmp 41) 87 rfl tyS str_one w.heap.size _ [s] v1 rfl ho2 _ 1 1 rfl hs2 rfl (by have := HLN.out; rw [List.nil_append, List.length_take]; omega) (by have := hbu2.size; omega) ?_
               intro v2 u3 ho3 hc3
               have hbu3 := hbu2.trans hc3
               have hs3 := (hrow1.below hbu3).src_from str_len (by decide) i c hi hnc
               rw [HA2.out] at hs3)
            | (at_builtin; refine wpList_ownB rfl (.tmp 43) (.tmp 46) 87 rfl tyS str_one w.heap.size _ (l.drop i) v2 rfl ho3 _ (n - i) (c - i) rfl hs3 (by have := HLN.out; rw [List.length_drop]; omega) (by have := HLN.out; simp; omega) (by have := hbu3.size; omega) ?_
               intro v3 u4 ho4 hc4
               have hbu4 := hbu3.trans hc4)
            | fail)
          go_ret
          rw [show putS l s = _ from putA_new hki.out HX.out HQ.out]
          obtain ⟨A', c', hv, hr', h1, h2⟩ := ho4.row str_len (by decide)
          exact ⟨A', _, c', by rw [hv]; rfl, hr'.imp fun b hb => ⟨.inr hb.1, hb.2⟩, h1, h2, hbu4⟩
        · have HQ := Lib.hid hq
          have e2 : (x.toList == s.toList) = true := (eqS_def x s).trans hq
          clear hq
          go_wp2_with fail
          go_ret
          exact ⟨A, n, c, rfl, by rw [show putS l s = l from putA_here hki.out HX.out HQ.out]; exact hboth.out.keep fun b hb => ⟨⟨.inl hb.1, Nat.lt_of_lt_of_le hb.2 hbr.size⟩, hbr.block b hb.2⟩, hnc, hc, hbr⟩
      · have HV := Lib.hid hv
        have e1 : Op.bytesLess x.toList s.toList = true := (bytesLess_ltS x s).trans hv
        clear hv
        go_wp2_with fail
        go_roundw
        case rel => exact ⟨i + 1, by omega, by go_num, Lib.hid (by have h := HL.out; rw [kOf_step HX.out, if_pos HV.out] at h; omega), hbr⟩
        case measure => simp [intOf]; omega
    · have hd : decide (i < n) = false := by simp; omega
      have hki : Hid (kOf ltS s l = i) := Lib.hid (by have h := HL.out; have h2 := hrow.len; rw [List.drop_eq_nil_of_le (by omega)] at h; simp only [kOf] at h; rw [HK.out]; omega)
      go_upto_region 6 with fail
      obtain ⟨W, hw0⟩ : ∃ W, wr = W := ⟨_, rfl⟩
      rw [hw0]
      have hbW : Below w.heap.size w W := by rw [← hw0]; exact hbr
      clear hw0
      obtain ⟨W1, hW1, hblk1, hsz1, hb2⟩ := alloc_facts W (.cells #[] 9)
      have hbW1 := hbW.seq hb2
      have ho := OwnV.fresh (cells := strV) (sz := 1) hblk1 hbW.size
      have hrow1 := hrow
      have hs := (hrow1.below hbW1).src str_len (by decide) i hi
      have HLN := Lib.hid hrow.len
      clear hblk1
      obtain ⟨A2, hA2⟩ : ∃ A2, (if c = i then A else A.map (·.add (i * 1))) = A2 := ⟨_, rfl⟩
      have HA2 := Lib.hid hA2
      clear hA2
      go_wp2_with (first
        | (refine wpList_hiT rfl (.tmp 35) (.tmp 36) 87 rfl tyS A n c i rfl rfl (by omega) ?_)
        | (refine wpList_loT rfl (.tmp 44) (.tmp 45) 87 rfl tyS A n c i rfl rfl (by omega) A2 HA2.out ?_)
        | (at_builtin; refine wpList_ownB rfl (.tmp 34) (.tmp 37) 87 rfl tyS str_one w.heap.size [] (l.take i) _ rfl ho A i c rfl hs (by have := HLN.out; rw [List.length_take]; omega) (by have := HLN.out; simp; omega) (by have := hbW1.size; omega) ?_
           intro v1 u1 ho1 hc1
           have hbu1 := hbW1.trans hc1
           obtain ⟨u2, hu2, hblk2, hsz2, hb3⟩ := alloc_facts u1 (.cells #[.string s] 9)
           have hbu2 := hbu1.seq hb3
           have ho2 := ho1.keep hb3
           have hs2 := Src.block (sz := 1) (m := 1) (vs := [s].flatMap strV) hblk2 rfl
           clear hblk2)
        | (at_builtin; refine wpList_ownB rfl (.tmp 39) (.tmp 41) 87 rfl tyS str_one w.heap.size _ [s] v1 rfl ho2 _ 1 1 rfl hs2 rfl (by have := HLN.out; rw [List.nil_append, List.length_take]; omega) (by have := hbu2.size; omega) ?_
           intro v2 u3 ho3 hc3
           have hbu3 := hbu2.trans hc3
           have hs3 := (hrow1.below hbu3).src_from str_len (by decide) i c hi hnc
           rw [HA2.out] at hs3)
        | (at_builtin; refine wpList_ownB rfl (.tmp 43) (.tmp 46) 87 rfl tyS str_one w.heap.size _ (l.drop i) v2 rfl ho3 _ (n - i) (c - i) rfl hs3 (by have := HLN.out; rw [List.length_drop]; omega) (by have := HLN.out; simp; omega) (by have := hbu3.size; omega) ?_
           intro v3 u4 ho4 hc4
           have hbu4 := hbu3.trans hc4)
        | fail)
      go_ret
      rw [show putS l s = _ from putA_end hki.out (by have := hrow.len; omega)]
      obtain ⟨A', c', hv, hr', h1, h2⟩ := ho4.row str_len (by decide)
      exact ⟨A', _, c', by rw [hv]; rfl, hr'.imp fun b hb => ⟨.inr hb.1, hb.2⟩, h1, h2, hbu4⟩
end Go.Proofs.YtfildbkkmnfekaaGreatDoor
