/- Slices of names, strings, bools; what the loops over them return. -/
import Derived.Test.YtfildbkkmnfekaaGreatDoorRep
import Derived.WalkKit
import Derived.WalkSpells
import Derived.WalkLawsBesides
import Derived.BigGuardPart
import Derived.Lib.Hide
import Derived.Deep.QuietTactic
import Derived.BigQuiet
import Derived.StillTailTactics
import Derived.Deep.DeepCutAuto
import Derived.Deep.CutBlock
import Derived.Laws.EntriesVeiled
namespace Go.Proofs.YtfildbkkmnfekaaGreatDoor
open Go.RowKit

/-- A name: its space, its local part. -/
abbrev Nm := ByteArray × ByteArray
def nmV (x : Nm) : List Value := [.string x.1, .string x.2]
def strV (s : ByteArray) : List Value := [.string s]
def boolV (x : Bool) : List Value := [.bool x]
/-- A slice of n elements of sz cells each, flat in memory: element i is cells (l[i]). -/
def RowV {α : Type} (w : World) (F : Nat → Prop) (sz : Nat) (cells : α → List Value) (l : List α) (A : Option Addr) (n : Nat) : Prop :=
  n = l.length ∧ (0 < l.length → ∃ b off, A = some ⟨b, off, none⟩ ∧ F b ∧ ∀ i x, l[i]? = some x → CellsAt w b (off + i * sz) (cells x))
section
variable {α : Type} {w w' : World} {F F' : Nat → Prop} {sz : Nat} {cells : α → List Value} {l : List α} {A : Option Addr} {n B : Nat}
theorem RowV.len (h : RowV w F sz cells l A n) : n = l.length := h.1
theorem RowV.keep (h : RowV w F sz cells l A n) (hF : ∀ b, F b → F' b ∧ w'.heap[b]? = w.heap[b]?) : RowV w' F' sz cells l A n :=
  ⟨h.1, fun hp => let ⟨b, off, hA, hb, hc⟩ := h.2 hp; ⟨b, off, hA, (hF b hb).1, fun i x hx => (hc i x hx).keep (hF b hb).2⟩⟩
theorem RowV.below (h : RowV w (· < B) sz cells l A n) (hb : Below B w w') : RowV w' (· < B) sz cells l A n := h.keep fun b hb' => ⟨hb', hb.block b hb'⟩
theorem RowV.here (h : RowV w F sz cells l A n) (hne : ∀ x : α, cells x ≠ []) : RowV w (· < w.heap.size) sz cells l A n := by
  refine ⟨h.1, fun hp => ?_⟩
  obtain ⟨b, off, hA, hb, hc⟩ := h.2 hp
  refine ⟨b, off, hA, ?_, hc⟩
  have h0 : l[0]? = some (l[0]'hp) := List.getElem?_eq_getElem hp
  have hcell := hc 0 _ h0
  cases hv : cells (l[0]'hp) with
  | nil => exact absurd hv (hne _)
  | cons v vs => rw [hv] at hcell; exact hcell.lt
theorem RowV.nil (w : World) (F : Nat → Prop) (sz : Nat) (cells : α → List Value) (A : Option Addr) : RowV w F sz cells [] A 0 := ⟨rfl, fun h => by simp at h⟩
theorem RowV.at_ (h : RowV w F sz cells l A n) {i : Nat} (hi : i < n) : ∃ b off x, A = some ⟨b, off, none⟩ ∧ l[i]? = some x ∧ CellsAt w b (off + i * sz) (cells x) := by
  obtain ⟨hn, h⟩ := h
  obtain ⟨b, off, hA, _, hc⟩ := h (by omega)
  have hx : l[i]? = some (l[i]'(by omega)) := List.getElem?_eq_getElem (by omega)
  exact ⟨b, off, _, hA, hx, hc i _ hx⟩
end
theorem nmV_ne (x : Nm) : nmV x ≠ [] := by simp [nmV]
theorem strV_ne (x : ByteArray) : strV x ≠ [] := by simp [strV]
theorem boolV_ne (x : Bool) : boolV x ≠ [] := by simp [boolV]
/-- Element i of a slice of names. -/
theorem RowV.name {w : World} {F : Nat → Prop} {l : List Nm} {A : Option Addr} {n : Nat} (h : RowV w F 2 nmV l A n) {i : Nat} (hi : i < n) (c : Nat) :
    ∃ b off x y, Hid (l[i]? = some (x, y)) ∧ w.cell? ⟨b, off + i * 2, none⟩ = some (.string x) ∧ w.cell? ⟨b, off + i * 2 + 1, none⟩ = some (.string y) ∧
      ∀ W, (Instr.indexAt 48 (.slice A n c) (.int .i64 (i : Int))).run Tryz.prog W = .ok (.pointer (some ⟨b, off + i * 2, none⟩)) W := by
  obtain ⟨b, off, ⟨x, y⟩, hA, hx, hc⟩ := h.at_ hi
  exact ⟨b, off, x, y, Lib.hid hx, hc 0 _ rfl, hc 1 _ rfl, run_index_at (P := Tryz.prog) 48 24 2 Tryz.underlying48 (fun w => by kernel_rfl) hA n c i hi⟩
theorem RowV.str {w : World} {F : Nat → Prop} {l : List ByteArray} {A : Option Addr} {n : Nat} (h : RowV w F 1 strV l A n) {i : Nat} (hi : i < n) (c : Nat) :
    ∃ b off x, Hid (l[i]? = some x) ∧ w.cell? ⟨b, off + i, none⟩ = some (.string x) ∧
      ∀ W, (Instr.indexAt 87 (.slice A n c) (.int .i64 (i : Int))).run Tryz.prog W = .ok (.pointer (some ⟨b, off + i, none⟩)) W := by
  obtain ⟨b, off, x, hA, hx, hc⟩ := h.at_ hi
  have h1 := run_index_at (P := Tryz.prog) 87 9 1 Tryz.underlying87 (fun w => by kernel_rfl) hA n c i hi
  have h2 : w.cell? ⟨b, off + i * 1 + 0, none⟩ = some (.string x) := hc 0 _ rfl
  simp only [Nat.mul_one, Nat.add_zero] at h1 h2
  exact ⟨b, off, x, Lib.hid hx, h2, h1⟩
theorem RowV.bool {w : World} {F : Nat → Prop} {l : List Bool} {A : Option Addr} {n : Nat} (h : RowV w F 1 boolV l A n) {i : Nat} (hi : i < n) (c : Nat) :
    ∃ b off x, Hid (l[i]? = some x) ∧ w.cell? ⟨b, off + i, none⟩ = some (.bool x) ∧
      ∀ W, (Instr.indexAt 37 (.slice A n c) (.int .i64 (i : Int))).run Tryz.prog W = .ok (.pointer (some ⟨b, off + i, none⟩)) W := by
  obtain ⟨b, off, x, hA, hx, hc⟩ := h.at_ hi
  have h1 := run_index_at (P := Tryz.prog) 37 4 1 Tryz.underlying37 (fun w => by kernel_rfl) hA n c i hi
  have h2 : w.cell? ⟨b, off + i * 1 + 0, none⟩ = some (.bool x) := hc 0 _ rfl
  simp only [Nat.mul_one, Nat.add_zero] at h1 h2
  exact ⟨b, off, x, Lib.hid hx, h2, h1⟩
/-- Equality of lists of Bools, as a loop asks it. -/
def eqBs : List Bool → List Bool → Bool
  | [], _ => true
  | _ :: _, [] => true
  | x :: l, y :: l' => x == y && eqBs l l'
theorem eqBs_step {l l' : List Bool} {i : Nat} {x y : Bool} (hx : l[i]? = some x) (hy : l'[i]? = some y) : eqBs (l.drop i) (l'.drop i) = (x == y && eqBs (l.drop (i + 1)) (l'.drop (i + 1))) := by
  obtain ⟨h1, rfl⟩ := List.getElem?_eq_some_iff.1 hx
  obtain ⟨h2, rfl⟩ := List.getElem?_eq_some_iff.1 hy
  rw [List.drop_eq_getElem_cons h1, List.drop_eq_getElem_cons h2, eqBs]
theorem eqBs_iff : ∀ (l l' : List Bool), l.length = l'.length → (eqBs l l' = true ↔ l = l')
  | [], [], _ => by simp [eqBs]
  | [], _ :: _, h => by simp at h
  | _ :: _, [], h => by simp at h
  | x :: l, y :: l', h => by
    rw [eqBs, Bool.and_eq_true, eqBs_iff l l' (by simpa using h)]
    simp
/-- Is a name in a list? -/
def inNs : List Nm → ByteArray → ByteArray → Bool
  | [], _, _ => false
  | x :: l, a, b => (eqS x.1 a && eqS x.2 b) || inNs l a b
theorem inNs_step {l : List Nm} {i : Nat} {x y a b : ByteArray} (hx : l[i]? = some (x, y)) : inNs (l.drop i) a b = ((eqS x a && eqS y b) || inNs (l.drop (i + 1)) a b) := by
  obtain ⟨h1, h2⟩ := List.getElem?_eq_some_iff.1 hx
  rw [List.drop_eq_getElem_cons h1, inNs, h2]
theorem inNs_iff (l : List Nm) (a b : ByteArray) : inNs l a b = true ↔ (a, b) ∈ l := by
  induction l with
  | nil => simp [inNs]
  | cons x l ih =>
    obtain ⟨x1, x2⟩ := x
    simp only [inNs, Bool.or_eq_true, Bool.and_eq_true, eqS_iff, ih, List.mem_cons, Prod.mk.injEq]
    exact ⟨fun h => h.imp (fun ⟨e, f⟩ => ⟨e.symm, f.symm⟩) id, fun h => h.imp (fun ⟨e, f⟩ => ⟨e.symm, f.symm⟩) id⟩

set_option maxHeartbeats 1000000 in
set_option maxRecDepth 100000 in
theorem refhas_any (a b : ByteArray) (l : List Nm) (A : Option Addr) (n c : Nat) (w : World) (F : Nat → Prop) (hrow0 : RowV w F 2 nmV l A n) (hn : n < 2000000000000) :
    Calls Tryz.prog 71 #[.slice A n c, .agg #[.string a, .string b]] w fun e w' => e = .returned (.bool (inNs l a b)) ∧ Below w.heap.size w w' := by
  have hrow := hrow0.here nmV_ne
  obtain ⟨w1, hw1, hblk, hsz, hb1⟩ := alloc_facts w (.cells #[.string a, .string b] 24)
  have HB := Lib.hid hblk; clear hblk hrow0
  have heq := run_eql_name
  go_enter Tryz.func71, Tryz.ntmps71
  go_wp2_with fail
  have HW := Lib.hid hw1; clear hw1
  go_loopw [5] (fun si wr => ∃ i : Nat, i ≤ n ∧ si = .int .i64 i ∧ Hid (inNs l a b = inNs (l.drop i) a b) ∧ Below w1.heap.size w1 wr)
    (fun si _ => n - (intOf si).toNat)
  case atStart => exact ⟨0, by omega, rfl, Lib.hid rfl, Below.refl _ _⟩
  case round =>
    obtain ⟨i, hi, rfl, HL, hbr⟩ := hrel
    obtain ⟨n0, n1⟩ := blk2 (hp_below HB.out hbr)
    have hbw := hb1.seq hbr
    by_cases hlt : i < n
    · obtain ⟨b', off, x, y, HX, p0, p1, hix⟩ := (hrow.below hbw).name hlt c
      have hd : decide (i < n) = true := by simp; omega
      obtain ⟨v, hv⟩ : ∃ v, (eqS x a && eqS y b) = v := ⟨_, rfl⟩
      have hq : ∀ W, (binOp .eql 24 (.agg #[.string x, .string y]) (.agg #[.string a, .string b])).run Tryz.prog W = .ok (.bool v) W := fun W => by rw [run_eql_name, hv]
      have HV := Lib.hid hv
      clear hv heq
      go_wp2_with fail
      cases v
      · go_quiet (fail)
        go_wp2_with fail
        go_roundw
        case rel => exact ⟨i + 1, by omega, by go_num, Lib.hid (by rw [HL.out, inNs_step HX.out, HV.out]; rfl), hbr.drewN _⟩
        case measure => simp [intOf]; omega
      · go_quiet (fail)
        go_wp2_with fail
        go_ret
        exact ⟨ret_bool (by rw [HL.out, inNs_step HX.out, HV.out]; rfl), hbw.drewN _⟩
    · have hd : decide (i < n) = false := by simp; omega
      have hdn : l.drop i = [] := List.drop_eq_nil_of_le (by have := hrow.len; omega)
      have HE := Lib.hid hdn; clear hdn
      go_wp2_with fail
      go_ret
      exact ⟨ret_bool (by rw [HL.out, HE.out]; rfl), hbw⟩

set_option maxHeartbeats 1000000 in
set_option maxRecDepth 100000 in
theorem refbools_any (l l' : List Bool) (A A' : Option Addr) (n n' c c' : Nat) (w : World) (F : Nat → Prop) (hrow0 : RowV w F 1 boolV l A n) (hrow0' : RowV w F 1 boolV l' A' n') (hn : n < 2000000000000) (hle : n ≤ n') :
    Calls Tryz.prog 49 #[.slice A n c, .slice A' n' c'] w fun e w' => e = .returned (.bool (eqBs l l')) ∧ Below w.heap.size w w' := by
  have hrow := hrow0.here boolV_ne
  have hrow' := hrow0'.here boolV_ne
  clear hrow0 hrow0'
  go_enter Tryz.func49, Tryz.ntmps49
  go_wp2_with fail
  go_loopw [5] (fun si wr => ∃ i : Nat, i ≤ n ∧ si = .int .i64 i ∧ Hid (eqBs l l' = eqBs (l.drop i) (l'.drop i)) ∧ Below w.heap.size w wr)
    (fun si _ => n - (intOf si).toNat)
  case atStart => exact ⟨0, by omega, rfl, Lib.hid rfl, Below.refl _ _⟩
  case round =>
    obtain ⟨i, hi, rfl, HL, hbw⟩ := hrel
    by_cases hlt : i < n
    · obtain ⟨b1, off1, x, HX, p0, hix⟩ := (hrow.below hbw).bool hlt c
      obtain ⟨b2, off2, y, HY, p1, hiy⟩ := (hrow'.below hbw).bool (show i < n' by omega) c'
      have hd : decide (i < n) = true := by simp; omega
      go_wp2_with fail
      cases x <;> cases y
      all_goals
        go_quiet (fail)
        go_wp2_with fail
      · go_roundw
        case rel => exact ⟨i + 1, by omega, by go_num, Lib.hid (by rw [HL.out, eqBs_step HX.out HY.out]; rfl), hbw.drewN _⟩
        case measure => simp [intOf]; omega
      · go_ret
        exact ⟨ret_bool (by rw [HL.out, eqBs_step HX.out HY.out]; rfl), hbw.drewN _⟩
      · go_ret
        exact ⟨ret_bool (by rw [HL.out, eqBs_step HX.out HY.out]; rfl), hbw.drewN _⟩
      · go_roundw
        case rel => exact ⟨i + 1, by omega, by go_num, Lib.hid (by rw [HL.out, eqBs_step HX.out HY.out]; rfl), hbw.drewN _⟩
        case measure => simp [intOf]; omega
    · have hd : decide (i < n) = false := by simp; omega
      have hdn : l.drop i = [] := List.drop_eq_nil_of_le (by have := hrow.len; omega)
      have HE := Lib.hid hdn; clear hdn
      go_wp2_with fail
      go_ret
      exact ⟨ret_bool (by rw [HL.out, HE.out]; rfl), hbw⟩

set_option maxHeartbeats 1000000 in
set_option maxRecDepth 100000 in
theorem bools_any (l l' : List Bool) (A A' : Option Addr) (n n' c c' : Nat) (w : World) (F : Nat → Prop) (hrow0 : RowV w F 1 boolV l A n) (hrow0' : RowV w F 1 boolV l' A' n') (hn : n < 2000000000000) :
    Calls Tryz.prog 50 #[.slice A n c, .slice A' n' c'] w fun e w' => e = .returned (.bool (decide (n = n') && eqBs l l')) ∧ Below w.heap.size w w' := by
  have hrow := hrow0.here boolV_ne
  have hrow' := hrow0'.here boolV_ne
  clear hrow0 hrow0'
  by_cases hnn : n = n'
  · subst hnn
    have hbe : (!((n : Int) == (n : Int))) = false := by simp
    have HR : Hid ((decide (n = n) && eqBs l l') = eqBs l l') := by simp [Hid]
    have hle : n ≤ n := Nat.le_refl _
    go_enter Tryz.func50, Tryz.ntmps50
    go_wp2_with fail
    go_loopw [5] (fun si wr => ∃ i : Nat, i ≤ n ∧ si = .int .i64 i ∧ Hid (eqBs l l' = eqBs (l.drop i) (l'.drop i)) ∧ Below w.heap.size w wr)
      (fun si _ => n - (intOf si).toNat)
    case atStart => exact ⟨0, by omega, rfl, Lib.hid rfl, Below.refl _ _⟩
    case round =>
      obtain ⟨i, hi, rfl, HL, hbw⟩ := hrel
      by_cases hlt : i < n
      · obtain ⟨b1, off1, x, HX, p0, hix⟩ := (hrow.below hbw).bool hlt c
        obtain ⟨b2, off2, y, HY, p1, hiy⟩ := (hrow'.below hbw).bool (show i < n by omega) c'
        have hd : decide (i < n) = true := by simp; omega
        go_wp2_with fail
        cases x <;> cases y
        all_goals
          go_quiet (fail)
          go_wp2_with fail
        · go_roundw
          case rel => exact ⟨i + 1, by omega, by go_num, Lib.hid (by rw [HL.out, eqBs_step HX.out HY.out]; rfl), hbw.drewN _⟩
          case measure => simp [intOf]; omega
        · go_ret
          exact ⟨ret_bool (by rw [HR.out, HL.out, eqBs_step HX.out HY.out]; rfl), hbw.drewN _⟩
        · go_ret
          exact ⟨ret_bool (by rw [HR.out, HL.out, eqBs_step HX.out HY.out]; rfl), hbw.drewN _⟩
        · go_roundw
          case rel => exact ⟨i + 1, by omega, by go_num, Lib.hid (by rw [HL.out, eqBs_step HX.out HY.out]; rfl), hbw.drewN _⟩
          case measure => simp [intOf]; omega
      · have hd : decide (i < n) = false := by simp; omega
        have hdn : l.drop i = [] := List.drop_eq_nil_of_le (by have := hrow.len; omega)
        have HE := Lib.hid hdn; clear hdn
        go_wp2_with fail
        go_ret
        exact ⟨ret_bool (by rw [HR.out, HL.out, HE.out]; rfl), hbw⟩
  · have HNN : Hid ((decide (n = n') && eqBs l l') = false) := by simp [Hid, hnn]
    have hb : (((n : Int) == (n' : Int))) = false := by simp; omega
    have hb2 : (((n : Int) != (n' : Int))) = true := by simp; omega
    clear hnn
    go_enter Tryz.func50, Tryz.ntmps50
    go_wp2_with fail
    go_ret
    exact ⟨ret_bool HNN.out.symm, Below.refl _ _⟩
end Go.Proofs.YtfildbkkmnfekaaGreatDoor
