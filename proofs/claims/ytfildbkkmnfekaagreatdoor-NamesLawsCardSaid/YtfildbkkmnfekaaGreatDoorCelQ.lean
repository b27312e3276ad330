/- For Cells: the key of the answers, the map of keys, the blocks made and indexed. -/
import Derived.Test.YtfildbkkmnfekaaGreatDoorCelP
import Derived.RangeFuncNested
import Derived.RangeFuncBound
import Derived.RangeFuncCalls
import Derived.RangeFuncLeaves
import Derived.Shelf.Abstract
import Derived.Shelf.RegionOpen
import Derived.WalkKit
import Derived.OwnWalkIn
import Derived.TacticsInMore
import Derived.LoopNIn
import Derived.LoopIn
import Derived.Lib.Hide
import Derived.WalkSpells
import Derived.WalkLawsBesides
import Derived.Deep.DeepFit
import Derived.Lib.AppendIntMem
import Derived.Laws.MakeOwn
import Derived.Laws.BytesString
import Derived.Laws.Cells
namespace Go.Proofs.YtfildbkkmnfekaaGreatDoor
open Go.RowKit Go.Shelf
attribute [local go_sem] Oper.semAt_some

/-- The key of some answers: bytes 0 and 1. -/
def keyS (q : List Bool) : ByteArray := (q.map fun b => if b then (1 : Int) else 0).foldl (fun r n => r.push (UInt8.ofNat n.toNat)) ByteArray.empty
theorem push_list (ns : List Int) : ∀ s : ByteArray, (ns.foldl (fun r n => r.push (UInt8.ofNat n.toNat)) s).data.toList = s.data.toList ++ ns.map fun n => UInt8.ofNat n.toNat := by
  induction ns with
  | nil => intro s; simp
  | cons n ns ih =>
    intro s
    rw [List.foldl_cons, ih, List.map_cons]
    simp [ByteArray.push]
theorem keyS_list (q : List Bool) : (keyS q).data.toList = q.map fun b => if b then (1 : UInt8) else 0 := by
  unfold keyS
  rw [push_list, List.map_map]
  have : ByteArray.empty.data.toList = [] := rfl
  rw [this, List.nil_append]
  apply List.map_congr_left
  intro b _
  cases b <;> rfl
theorem bit_inj : ∀ (q q' : List Bool), (q.map fun b => if b then (1 : UInt8) else 0) = (q'.map fun b => if b then (1 : UInt8) else 0) → q = q'
  | [], [], _ => rfl
  | [], _ :: _, h => by simp at h
  | _ :: _, [], h => by simp at h
  | a :: q, b :: q', h => by
    rw [List.map_cons, List.map_cons, List.cons.injEq] at h
    rw [bit_inj q q' h.2]
    have h1 := h.1
    cases a <;> cases b <;> simp at h1 <;> rfl
theorem eqS_key (q q' : List Bool) : eqS (keyS q) (keyS q') = (q == q') := by
  rw [Bool.eq_iff_iff, eqS_iff, beq_iff_eq]
  refine ⟨fun h => bit_inj q q' ?_, fun h => by rw [h]⟩
  rw [← keyS_list, ← keyS_list, h]
def knO (out : List (Nm × List Bool)) : List (ByteArray × Bool) := out.map fun o => (keyS o.2, true)
theorem look_kn (q : List Bool) : ∀ out : List (Nm × List Bool), (look eqS (keyS q) (knO out)).getD false = out.any (fun o => o.2 == q)
  | [] => rfl
  | o :: out => by
    rw [knO, List.map_cons, look, List.any_cons, eqS_key]
    cases h : (q == o.2) with
    | true =>
      have : (o.2 == q) = true := by rw [beq_iff_eq] at h ⊢; exact h.symm
      simp [this]
    | false =>
      have : (o.2 == q) = false := by rw [beq_eq_false_iff_ne] at h ⊢; exact fun e => h e.symm
      rw [this, Bool.false_or]
      exact look_kn q out
theorem put_kn (q : List Bool) (x : Nm) : ∀ out : List (Nm × List Bool), out.any (fun o => o.2 == q) = false → putM eqS (keyS q) true (knO out) = knO (out ++ [(x, q)])
  | [], _ => rfl
  | o :: out, h => by
    rw [List.any_cons, Bool.or_eq_false_iff] at h
    have h1 : (q == o.2) = false := by have := h.1; rw [beq_eq_false_iff_ne] at this ⊢; exact fun e => this e.symm
    rw [knO, List.map_cons, putM, eqS_key, h1]
    simp only [Bool.false_eq_true, if_false]
    show (keyS o.2, true) :: putM eqS (keyS q) true (knO out) = _
    rw [put_kn q x out h.2]
    rfl
theorem run_key {w : World} {g n : Nat} {q : List Bool} {t : TypeId} {fr : Nat × Nat} (h : w.heap[g]? = some (.cells (byA q n n) t fr)) (hq : q.length = n) :
    (convert 69 9 (.slice (some ⟨g, 0, none⟩) n n)).run Tryz.prog w = .ok (.string (keyS q)) w := by
  rw [run_convert_bytes_string w 69 9 5 _ n n (by kernel_rfl) (by kernel_rfl) (by kernel_rfl)]
  rw [run_bytesToString w ⟨g, 0, none⟩ n n (q.map fun b => if b then (1 : Int) else 0)]
  · rfl
  · have h2 := run_loadCells_list (P := Tryz.prog) (w := w) ⟨g, 0, none⟩ ((q.map fun b => if b then (1 : Int) else 0).map (Value.int .u8)) (fun j v hv => by
      rw [add_cells, Nat.zero_add, cell_of_row w g j _ _ _ h]
      unfold byA
      rw [upTo_all hq]
      simpa using hv)
    simp only [List.length_map, hq] at h2
    exact h2
theorem info5 : (Tryz.prog.info? 5).map (fun i => (i.zero, i.size, i.bytes)) = some (some (.int .u8 0), 1, 1) := by kernel_rfl
theorem info_get {t : TypeId} {z : Value} (h : (Tryz.prog.info? t).map (fun i => (i.zero, i.size, i.bytes)) = some (some z, 1, 1)) : ∃ i, Tryz.prog.info? t = some i ∧ i.zero = some z ∧ i.size = 1 ∧ i.bytes = 1 := by
  cases hi : Tryz.prog.info? t with
  | none => rw [hi] at h; cases h
  | some i =>
    rw [hi] at h
    simp only [Option.map_some, Option.some.injEq, Prod.mk.injEq] at h
    exact ⟨i, rfl, h.1, h.2.1, h.2.2⟩
theorem mk37 (q : List Bool) (n : Nat) (hn : n ≤ 100000) (W : World) : (Instr.makeSlice 37 (.int .i64 n) (.int .i64 n)).run Tryz.prog W = .ok (.slice (some ⟨W.heap.size, 0, none⟩) n n) (W.alloc (.cells (inA q 0 n) 4)) := by
  obtain ⟨i, h1, h2, h3, h4⟩ := info_get info4
  rw [run_make W 37 4 i _ (by kernel_rfl) h1 h2 .i64 .i64 n n (by omega) (by omega) (by rw [h4]; omega) (by omega), ← made_in q n, h3]
  simp
theorem mk69 (q : List Bool) (n : Nat) (hn : n ≤ 100000) (W : World) : (Instr.makeSlice 69 (.int .i64 n) (.int .i64 n)).run Tryz.prog W = .ok (.slice (some ⟨W.heap.size, 0, none⟩) n n) (W.alloc (.cells (byA q 0 n) 5)) := by
  obtain ⟨i, h1, h2, h3, h4⟩ := info_get info5
  rw [run_make W 69 5 i _ (by kernel_rfl) h1 h2 .i64 .i64 n n (by omega) (by omega) (by rw [h4]; omega) (by omega), ← made_by q n, h3]
  simp
theorem idx37 (g n i : Nat) (hi : i < n) (W : World) : (Instr.indexAt 37 (.slice (some ⟨g, 0, none⟩) n n) (.int .i64 (i : Int))).run Tryz.prog W = .ok (.pointer (some ⟨g, i, none⟩)) W := by
  have := run_index_at (P := Tryz.prog) 37 4 1 (by kernel_rfl) (fun w => by kernel_rfl) (A := some ⟨g, 0, none⟩) rfl n n i hi W
  simpa using this
theorem idx69 (g n i : Nat) (hi : i < n) (W : World) : (Instr.indexAt 69 (.slice (some ⟨g, 0, none⟩) n n) (.int .i64 (i : Int))).run Tryz.prog W = .ok (.pointer (some ⟨g, i, none⟩)) W := by
  have := run_index_at (P := Tryz.prog) 69 5 1 (by kernel_rfl) (fun w => by kernel_rfl) (A := some ⟨g, 0, none⟩) rfl n n i hi W
  simpa using this
theorem inA_cell {w : World} {g i n : Nat} {q : List Bool} {t : TypeId} {fr : Nat × Nat} (h : w.heap[g]? = some (.cells (inA q i n) t fr)) (hq : q.length = n) (hi : i < n) : w.cell? ⟨g, i, none⟩ = some (.bool false) := by
  rw [cell_of_row w g i _ _ _ h]; unfold inA; simp [upTo_get hq hi]
theorem inA_at {w : World} {g i n : Nat} {q : List Bool} {t : TypeId} {fr : Nat × Nat} {v : Bool} (h : w.heap[g]? = some (.cells (inA q (i + 1) n) t fr)) (hq : q.length = n) (hi : q[i]? = some v) : w.cell? ⟨g, i, none⟩ = some (.bool v) := by
  rw [cell_of_row w g i _ _ _ h]
  have h1 := (List.getElem?_eq_some_iff.1 hi).1
  unfold inA
  rw [← upTo_set hq hi, List.getElem?_toArray, List.getElem?_map, List.getElem?_set_self (by rw [upTo_len hq (by omega)]; omega)]
  rfl
theorem byA_false {i n : Nat} {q : List Bool} (hq : q.length = n) (hi : q[i]? = some false) : byA q (i + 1) n = byA q i n := by
  unfold byA; rw [upTo_false hq hi]
theorem byA_cell {w : World} {g i n : Nat} {q : List Bool} {t : TypeId} {fr : Nat × Nat} (h : w.heap[g]? = some (.cells (byA q i n) t fr)) (hq : q.length = n) (hi : i < n) : w.cell? ⟨g, i, none⟩ = some (.int .u8 0) := by
  rw [cell_of_row w g i _ _ _ h]; unfold byA; simp [upTo_get hq hi]
theorem inA_row {w : World} {g n : Nat} {q : List Bool} {t : TypeId} {fr : Nat × Nat} {F : Nat → Prop} (h : w.heap[g]? = some (.cells (inA q n n) t fr)) (hq : q.length = n) (hF : F g) : RowV w F 1 boolV q (some ⟨g, 0, none⟩) n := by
  refine ⟨hq.symm, fun _ => ⟨g, 0, rfl, hF, fun i x hx j v hv => ?_⟩⟩
  have hj : j = 0 := by have := (List.getElem?_eq_some_iff.1 hv).1; simp [boolV] at this; exact this
  subst hj
  rw [cell_of_row w g _ _ _ _ h]
  unfold inA
  rw [upTo_all hq]
  simp [boolV] at hv
  subst hv
  simp [hx]
end Go.Proofs.YtfildbkkmnfekaaGreatDoor
