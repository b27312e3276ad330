/- checked. combined's question. Normal's question. The ways to combine two answers. -/
import Derived.Test.YtfildbkkmnfekaaGreatDoorMentP
import Derived.Test.YtfildbkkmnfekaaGreatDoorG18
import Derived.Test.YtfildbkkmnfekaaGreatDoorG11
import Derived.WalkKit
import Derived.Maps.Own
import Derived.Deep.RegionHeld3
import Derived.Deep.DeepFit
import Derived.WalkSpells
import Derived.WalkLawsBesides
import Derived.BigGuardPart
import Derived.Lib.Hide
import Derived.Deep.QuietTactic
import Derived.BigQuiet
import Derived.StillTailTactics
import Derived.Deep.DeepCutAuto
import Derived.Deep.CutBlock
import Derived.Laws.EntriesVeiled
namespace Go.Proofs.YtfildbkkmnfekaaGreatDoor
open Go.RowKit

/-- The first class that is not well built tells the answer. -/
def chkL : List Cls → Int
  | [] => 0
  | c :: r => if chkN c = 0 then chkL r else chkN c
theorem chkL_drop {l : List Cls} {i : Nat} {c : Cls} (h : l[i]? = some c) : chkL (l.drop i) = if chkN c = 0 then chkL (l.drop (i + 1)) else chkN c := by
  obtain ⟨h1, rfl⟩ := List.getElem?_eq_some_iff.1 h
  rw [List.drop_eq_getElem_cons h1, chkL]
theorem checked_any (l : List Cls) (A : Option Addr) (n c : Nat) (w : World) (F : Nat → Prop) (hrow0 : RowL w F l A n) (hn : n < 2000000) :
    Calls Tryz.prog 43 #[.slice A n c] w fun e w' => e = .returned (.int .i64 (chkL l)) ∧ Below w.heap.size w w' := by
  have h1 := hrow0.here
  clear hrow0
  go_enter Tryz.func43, Tryz.ntmps43
  go_wp2_with fail
  go_loopw [8] (fun si wr => ∃ i : Nat, i ≤ n ∧ si = .int .i64 i ∧ Hid (chkL l = chkL (l.drop i)) ∧ Below w.heap.size w wr)
    (fun si _ => n - (intOf si).toNat)
  case atStart => exact ⟨0, by omega, rfl, Lib.hid rfl, Below.refl _ _⟩
  case round =>
    obtain ⟨i, hi, rfl, HL, hbw⟩ := hrel
    by_cases hlt : i < n
    · obtain ⟨b, off, ch, v0, v1, v2, v3, v4, v5, HX, hrc, p0, p1, p2, p3, p4, p5, hix⟩ := h1.roundB hbw hlt c
      have hd : decide (i < n) = true := by simp; omega
      obtain ⟨k0, n0, l0, s0, A0, m0, d0, A1, m1, d1, rfl, rfl, rfl, rfl, rfl, rfl⟩ := hrc.shape
      obtain ⟨w5, hw5, S5, hsz5, hb5⟩ := alloc_facts wr (.cells #[.int .i64 k0, .string n0, .string l0, .string s0, .slice A0 m0 d0, .slice A1 m1 d1] 28)
      have hszw := hbw.size
      have hrc5 := hrc.below (hb5.mono (by omega))
      obtain ⟨r0, r1, r2, r3, r4, r5⟩ := blk6 S5
      obtain ⟨v, hv⟩ : ∃ v, chkN ch = v := ⟨_, rfl⟩
      have HD := Lib.hid (chkL_drop HX.out)
      have HC := Lib.hid (check_val ch _ w5 _ hrc5 hv)
      have HV := Lib.hid hv
      clear S5 hrc5 hrc hv
      go_wp2_with fail
      refine HC.out.mono ?_
      rintro e w6 ⟨rfl, hb6⟩
      have hb56 : Below w.heap.size w w6 := (hbw.trans (hb5.mono (by omega))).trans (hb6.mono (by omega))
      by_cases h0 : v = 0
      · subst h0
        go_wp2_with fail
        go_roundw
        case rel => exact ⟨i + 1, by omega, by go_num, Lib.hid (by rw [HL.out, HD.out, HV.out]; simp), hb56⟩
        case measure => simp [intOf]; omega
      · have hd0 : decide (v = 0) = false := by simp [h0]
        go_wp2_with fail
        go_ret
        exact ⟨by rw [HL.out, HD.out, HV.out]; simp [h0], hb56⟩
    · have hd : decide (i < n) = false := by simp; omega
      have HE : Hid (chkL l = 0) := Lib.hid (by rw [HL.out, List.drop_of_length_le (by have := h1.1; omega)]; rfl)
      go_wp2_with fail
      go_ret
      exact ⟨by rw [HE.out]; first | rfl | simp | (simp [Ending.returned]), hbw⟩
end Go.Proofs.YtfildbkkmnfekaaGreatDoor
namespace Go.Proofs.YtfildbkkmnfekaaGreatDoor
open Go.RowKit

set_option maxHeartbeats 1000000 in
set_option maxRecDepth 100000 in
theorem clo88_any (h g0 g1 g2 : Nat) (hw : Bool → Bool → Bool) (c1 c2 : Cls) (cs1 cs2 : List Value) (a b : ByteArray) (w : World) (F1 F2 : Nat → Prop) (hr1 : RepC w F1 c1 cs1) (hr2 : RepC w F2 c2 cs2)
    (hh : ∀ x y W, Calls Tryz.prog h #[.bool x, .bool y] W fun e w' => e = .returned (.bool (hw x y)) ∧ w' = W)
    (hcl : ∀ x y W, (callFunc h #[.bool x, .bool y]).run Tryz.prog W = .ok (.enter h #[.bool x, .bool y]) W)
    (e0 : w.heap[g0]? = some (.cells #[.func (.func h) #[] #[]] 79)) (e1 : w.heap[g1]? = some (.cells cs1.toArray 28)) (e2 : w.heap[g2]? = some (.cells cs2.toArray 28)) :
    Calls Tryz.prog 88 #[.agg #[.string a, .string b], .pointer (some ⟨g0, 0, none⟩), .pointer (some ⟨g1, 0, none⟩), .pointer (some ⟨g2, 0, none⟩)] w fun e w' => e = .returned (.bool (hw (hasC c1 a b) (hasC c2 a b))) ∧ Below w.heap.size w w' := by
  obtain ⟨v1, hv1⟩ : ∃ v, hasC c1 a b = v := ⟨_, rfl⟩
  obtain ⟨v2, hv2⟩ : ∃ v, hasC c2 a b = v := ⟨_, rfl⟩
  rw [hv1, hv2]
  obtain ⟨w1, hw1, S1, hsz1, hb1⟩ := alloc_facts w (.cells #[.string a, .string b] 24)
  have HR1 := Lib.hid (hr1.here.below hb1); have HR2 := Lib.hid (hr2.here.below hb1)
  obtain ⟨k1, ns1, nl1, s1, A1, n1, c01, A1', n1', c01', rfl⟩ := hr1.cells
  obtain ⟨k2, ns2, nl2, s2, A2, n2, c02, A2', n2', c02', rfl⟩ := hr2.cells
  have o0 := blk1 (hp_below e0 hb1)
  obtain ⟨p0, p1, p2, p3, p4, p5⟩ := blk6 (hp_below e1 hb1)
  obtain ⟨q0, q1, q2, q3, q4, q5⟩ := blk6 (hp_below e2 hb1)
  obtain ⟨r0, r1⟩ := blk2 S1
  have C1 : Hid (∀ W, RepC W (· < w.heap.size) c1 _ → Calls Tryz.prog 46 #[.agg #[.int .i64 k1, .string ns1, .string nl1, .string s1, .slice A1 n1 c01, .slice A1' n1' c01'], .agg #[.string a, .string b]] W fun e w' => e = .returned (.bool v1) ∧ Below W.heap.size W w') := Lib.hid fun W h1 => has_val a b c1 _ W _ h1 hv1
  have C2 : Hid (∀ W, RepC W (· < w.heap.size) c2 _ → Calls Tryz.prog 46 #[.agg #[.int .i64 k2, .string ns2, .string nl2, .string s2, .slice A2 n2 c02, .slice A2' n2' c02'], .agg #[.string a, .string b]] W fun e w' => e = .returned (.bool v2) ∧ Below W.heap.size W w') := Lib.hid fun W h1 => has_val a b c2 _ W _ h1 hv2
  have HH := Lib.hid hh
  have hcl2 := hcl v1 v2
  clear hcl
  clear S1 hr1 hr2 e0 e1 e2 hv1 hv2 hh
  go_enter Tryz.func88, Tryz.ntmps88
  go_wp2_with fail
  have so0 := Since.cell o0
  have sp0 := Since.cell p0
  have sp1 := Since.cell p1
  have sp2 := Since.cell p2
  have sp3 := Since.cell p3
  have sp4 := Since.cell p4
  have sp5 := Since.cell p5
  have sq0 := Since.cell q0
  have sq1 := Since.cell q1
  have sq2 := Since.cell q2
  have sq3 := Since.cell q3
  have sq4 := Since.cell q4
  have sq5 := Since.cell q5
  have sr0 := Since.cell r0
  have sr1 := Since.cell r1
  have KR : Hid (∀ p : Since w1, RepC p.wld (· < w.heap.size) c1 _ ∧ RepC p.wld (· < w.heap.size) c2 _) := Lib.hid fun p => ⟨HR1.out.below (p.below.mono (by omega)), HR2.out.below (p.below.mono (by omega))⟩
  refine wp_region_since (by kernel_rfl) (by kernel_rfl) ?_
  repeat (quiet_step (first
    | (go_at_call_of 46 (Value.agg #[Value.int IntKind.i64 k1, Value.string ns1, Value.string nl1, Value.string s1, Value.slice A1 n1 c01, Value.slice A1' n1' c01']); exact since_of (C1.out _ (KR.out _).1))
    | (go_at_call_of 46 (Value.agg #[Value.int IntKind.i64 k2, Value.string ns2, Value.string nl2, Value.string s2, Value.slice A2 n2 c02, Value.slice A2' n2' c02']); exact since_of (C2.out _ (KR.out _).2))
    | (exact since_of ((HH.out v1 v2 _).mono (by rintro e w' ⟨rfl, rfl⟩; exact ⟨rfl, Below.refl _ _⟩)))))
  refine wpQuiet_nil ?_
  intro wq hq
  have hbq := since_below hq
  clear hq
  go_wp2_with fail
  go_ret
  exact ⟨rfl, hb1.trans (hbq.mono (by omega))⟩
theorem call60 (x y : Bool) (W : World) : (callFunc 60 #[.bool x, .bool y]).run Tryz.prog W = .ok (.enter 60 #[.bool x, .bool y]) W := by kernel_rfl
theorem call62 (x y : Bool) (W : World) : (callFunc 62 #[.bool x, .bool y]).run Tryz.prog W = .ok (.enter 62 #[.bool x, .bool y]) W := by kernel_rfl
theorem call63 (x y : Bool) (W : World) : (callFunc 63 #[.bool x, .bool y]).run Tryz.prog W = .ok (.enter 63 #[.bool x, .bool y]) W := by kernel_rfl
theorem call65 (x y : Bool) (W : World) : (callFunc 65 #[.bool x, .bool y]).run Tryz.prog W = .ok (.enter 65 #[.bool x, .bool y]) W := by kernel_rfl
theorem call67 (x y : Bool) (W : World) : (callFunc 67 #[.bool x, .bool y]).run Tryz.prog W = .ok (.enter 67 #[.bool x, .bool y]) W := by kernel_rfl
theorem call69 (x y : Bool) (W : World) : (callFunc 69 #[.bool x, .bool y]).run Tryz.prog W = .ok (.enter 69 #[.bool x, .bool y]) W := by kernel_rfl
end Go.Proofs.YtfildbkkmnfekaaGreatDoor
namespace Go.Proofs.YtfildbkkmnfekaaGreatDoor
open Go.RowKit

theorem clo57_any (g : Nat) (c : Cls) (cs : List Value) (a b : ByteArray) (w : World) (F : Nat → Prop) (hr : RepC w F c cs) (hg : w.heap[g]? = some (.cells cs.toArray 28)) :
    Calls Tryz.prog 57 #[.agg #[.string a, .string b], .pointer (some ⟨g, 0, none⟩)] w fun e w' => e = .returned (.bool (hasC c a b)) ∧ Below w.heap.size w w' := by
  obtain ⟨v, hv⟩ : ∃ v, hasC c a b = v := ⟨_, rfl⟩
  rw [hv]
  obtain ⟨w1, hw1, S1, hsz1, hb1⟩ := alloc_facts w (.cells #[.string a, .string b] 24)
  have hr1 := hr.here.below hb1
  obtain ⟨k1, ns1, nl1, s1, A1, n1, c01, A1', n1', c01', rfl⟩ := hr.cells
  obtain ⟨p0, p1, p2, p3, p4, p5⟩ := blk6 (hp_below hg hb1)
  obtain ⟨r0, r1⟩ := blk2 S1
  have HC := Lib.hid (has_val a b c _ w1 _ hr1 hv)
  clear S1 hr hr1 hg hv
  go_enter Tryz.func57, Tryz.ntmps57
  go_wp2_with fail
  refine HC.out.mono ?_
  rintro e w6 ⟨rfl, hb6⟩
  have hb56 : Below w.heap.size w w6 := hb1.trans (hb6.mono (by omega))
  go_wp2_with fail
  go_ret
  exact ⟨rfl, hb56⟩
end Go.Proofs.YtfildbkkmnfekaaGreatDoor
namespace Go.Proofs.YtfildbkkmnfekaaGreatDoor
open Go.RowKit

theorem how60_any (x y : Bool) (w : World) : Calls Tryz.prog 60 #[.bool x, .bool y] w fun e w' => e = .returned (.bool (x || y)) ∧ w' = w := by
  go_enter Tryz.func60, Tryz.ntmps60
  cases x <;> cases y <;> (go_wp2_with fail; go_ret; exact ⟨rfl, rfl⟩)
theorem how62_any (x y : Bool) (w : World) : Calls Tryz.prog 62 #[.bool x, .bool y] w fun e w' => e = .returned (.bool (x && y)) ∧ w' = w := by
  go_enter Tryz.func62, Tryz.ntmps62
  cases x <;> cases y <;> (go_wp2_with fail; go_ret; exact ⟨rfl, rfl⟩)
theorem how63_any (x y : Bool) (w : World) : Calls Tryz.prog 63 #[.bool x, .bool y] w fun e w' => e = .returned (.bool (x && !y)) ∧ w' = w := by
  go_enter Tryz.func63, Tryz.ntmps63
  cases x <;> cases y <;> (go_wp2_with fail; go_ret; exact ⟨rfl, rfl⟩)
theorem how65_any (x y : Bool) (w : World) : Calls Tryz.prog 65 #[.bool x, .bool y] w fun e w' => e = .returned (.bool (x)) ∧ w' = w := by
  go_enter Tryz.func65, Tryz.ntmps65
  cases x <;> cases y <;> (go_wp2_with fail; go_ret; exact ⟨rfl, rfl⟩)
theorem how67_any (x y : Bool) (w : World) : Calls Tryz.prog 67 #[.bool x, .bool y] w fun e w' => e = .returned (.bool (y && !x)) ∧ w' = w := by
  go_enter Tryz.func67, Tryz.ntmps67
  cases x <;> cases y <;> (go_wp2_with fail; go_ret; exact ⟨rfl, rfl⟩)
theorem how69_any (x y : Bool) (w : World) : Calls Tryz.prog 69 #[.bool x, .bool y] w fun e w' => e = .returned (.bool (x && y)) ∧ w' = w := by
  go_enter Tryz.func69, Tryz.ntmps69
  cases x <;> cases y <;> (go_wp2_with fail; go_ret; exact ⟨rfl, rfl⟩)
end Go.Proofs.YtfildbkkmnfekaaGreatDoor
