/- append onto a slice of the call itself, whatever the source. -/
import Derived.Test.YtfildbkkmnfekaaGreatDoorRowA
import Derived.WalkKit
import Derived.Maps.AppendAt
import Derived.WalkSpells
import Derived.WalkLawsBesides
import Derived.BigGuardPart
import Derived.Lib.Hide
import Derived.Deep.QuietTactic
import Derived.BigQuiet
import Derived.StillTailTactics
import Derived.Deep.DeepCutAuto
import Derived.Deep.CutBlock
import Derived.Laws.EntriesVeiled
namespace Go.Proofs.YtfildbkkmnfekaaGreatDoor
open Go.RowKit

section
variable {P : Program}
/-- What append reads of its source: m elements of sz cells at A, if there are any. -/
def Src (w : World) (sz : Nat) (A : Option Addr) (m : Nat) (news : List Value) : Prop := news.length = m * sz ∧ (0 < m → ∃ b off, A = some ⟨b, off, none⟩ ∧ CellsAt w b off news)
theorem Src.empty (w : World) (sz : Nat) (A : Option Addr) : Src w sz A 0 [] := ⟨by simp, fun h => absurd h (by omega)⟩
theorem Src.keep {w w' : World} {sz : Nat} {A : Option Addr} {m : Nat} {news : List Value} {B : Nat} (h : Src w sz A m news) (hb : Below B w w') (hA : ∀ b off, A = some ⟨b, off, none⟩ → b < B) : Src w' sz A m news :=
  ⟨h.1, fun hm => let ⟨b, off, e, hc⟩ := h.2 hm; ⟨b, off, e, hc.keep (hb.block b (hA b off e))⟩⟩
theorem add_cells (b off j : Nat) : (⟨b, off, none⟩ : Addr).add j = ⟨b, off + j, none⟩ := by
  unfold Addr.add
  split
  · simp
  · rfl
theorem run_app (w : World) (base : Nat) (t ty e : TypeId) (i : TypeInfo) (z : Value) (size bytes : Nat) (ht : P.underlying t = some (.slice e)) (hi : P.info? e = some i) (hz : i.zero = some z)
    (hsize : i.size = size) (hby : i.bytes = bytes) (hzs : z.cells.size = size) (hsz : 0 < size) (v : Value) (n : Nat) (xs : List Value) (hown : w.ownsRow base e size v n xs)
    (A : Option Addr) (m c : Nat) (news : List Value) (hr : Src w size A m news) (h1 : ∀ u ∈ news, u.oneCell' = true) (hnm : n + m < 4000000) (hbt : bytes ≤ 1000) (hbase : base ≤ w.heap.size) :
    ∃ v' w', (Builtin.append_ #[t, t] ty #[v, .slice A m c]).run P w = .ok v' w' ∧ w'.ownsRow base e size v' (n + m) (xs ++ news) ∧ w.grownBy w' v.ownBlock ∧ (v'.ownBlock = v.ownBlock ∨ v'.ownBlock = some w.heap.size) := by
  have hb : (n + m) * bytes ≤ 140737488355328 := by
    have h : (n + m) * bytes ≤ 4000000 * 1000 := Nat.mul_le_mul (by omega) hbt
    omega
  have hx : n + m ≤ maxLen := by unfold maxLen; omega
  rcases Nat.eq_zero_or_pos m with h0 | h0
  · subst h0
    have hn : news = [] := List.eq_nil_of_length_eq_zero (by simpa using hr.1)
    subst hn
    rcases A with _ | ad
    · refine ⟨v, w, ?_, by simpa using hown, World.grownBy.refl w _, .inl rfl⟩
      rcases hown.2 with ⟨rfl, rfl⟩ | ⟨g, cap, cur, rfl, _, _, hnc, _⟩
      · simp [Builtin.append_, run_underlying ht, sizeOf, typeInfo, hi, Builtin.lenOf, Builtin.firstCells]
      · simp [Builtin.append_, run_underlying ht, sizeOf, typeInfo, hi, Builtin.lenOf, Builtin.firstCells, hnc, storeCells]
    · obtain ⟨v', w', hrun, h2, h3, _, h5⟩ := run_append_own_at (P := P) w base t ty e i z size bytes ht hi hz hsize hby hzs hsz v n xs hown ad 0 c [] hr.1 (by simp) h1 hx hb hbase
      exact ⟨v', w', hrun, h2, h3, h5⟩
  · obtain ⟨b, off, rfl, hc⟩ := hr.2 h0
    obtain ⟨v', w', hrun, h2, h3, _, h5⟩ := run_append_own_at (P := P) w base t ty e i z size bytes ht hi hz hsize hby hzs hsz v n xs hown ⟨b, off, none⟩ m c news hr.1 (fun j u hu => by rw [add_cells]; exact hc j u hu) h1 hx hb hbase
    exact ⟨v', w', hrun, h2, h3, h5⟩
/-- append, at its place in a region: the slice is the call's own. -/
theorem wpList_app {ops : Array Oper} {rest : List Oper} {o : Oper} {a : Act} {Q : Exit → Act → World → Prop} {w : World} (hgd : o.guard = none) (s x : Operand) (t : TypeId)
    (ho : o.op = .call { callee := .builtin .append, args := #[s, x], argTypes := #[t, t] }) (base : Nat) (e : TypeId) (i : TypeInfo) (z : Value) (size bytes : Nat) (ht : P.underlying t = some (.slice e)) (hi : P.info? e = some i) (hz : i.zero = some z)
    (hsize : i.size = size) (hby : i.bytes = bytes) (hzs : z.cells.size = size) (hsz : 0 < size) (v : Value) (n : Nat) (xs : List Value) (hs : a.eval s = v) (hown : w.ownsRow base e size v n xs)
    (A : Option Addr) (m c : Nat) (news : List Value) (hx : a.eval x = .slice A m c) (hr : Src w size A m news) (h1 : ∀ u ∈ news, u.oneCell' = true) (hnm : n + m < 4000000) (hbt : bytes ≤ 1000) (hbase : base ≤ w.heap.size)
    (h : ∀ v' w', w'.ownsRow base e size v' (n + m) (xs ++ news) → w.grownBy w' v.ownBlock → (v'.ownBlock = v.ownBlock ∨ v'.ownBlock = some w.heap.size) → wpList P ops Q rest (a.put o.dst v') w') : wpList P ops Q (o :: rest) a w :=
  wpList_plain hgd fun K hK => by
    obtain ⟨v', w', hrun, h2, h3, h4⟩ := run_app (P := P) w base t o.type e i z size bytes ht hi hz hsize hby hzs hsz v n xs hown A m c news hr h1 hnm hbt hbase
    unfold Oper.wp execOp
    simp only [ho, resolve, invoke, builtin, Sem.run_bind, Sem.run_pure, Result.andThen_ok, List.map_toArray, List.map_cons, List.map_nil, hs, hx, hrun]
    exact hK _ _ (h v' w' h2 h3 h4)
theorem add_zero' (a : Addr) : a.add 0 = a := by simp [Addr.add]
theorem map_add_zero (A : Option Addr) : A.map (·.add 0) = A := by cases A <;> simp [add_zero']
theorem run_size {e : TypeId} {i : TypeInfo} (hi : P.info? e = some i) (w : World) : (sizeOf e).run P w = .ok i.size w := by simp [sizeOf, typeInfo, hi]
/-- s[:k] of a slice, at its place in a region. -/
theorem wpList_hi {ops : Array Oper} {rest : List Oper} {a : Act} {Q : Exit → Act → World → Prop} {w : World} {o : Oper} (hgd : o.guard = none) (x hi : Operand) (t : TypeId) (ho : o.op = .slice t x none (some hi) none)
    (e : TypeId) (i : TypeInfo) (ht : P.underlying t = some (.slice e)) (hin : P.info? e = some i) (A : Option Addr) (n c k : Nat) (hx : a.eval x = .slice A n c) (hh : a.eval hi = .int .i64 k) (hk : k ≤ c)
    (h : wpList P ops Q rest (a.put o.dst (.slice A k c)) w) : wpList P ops Q (o :: rest) a w :=
  wpList_plain hgd fun K hK => by
    have ht' : P.underlying t = some (.slice (P.elem t)) := by simp [Program.elem, ht]
    have he : P.elem t = e := by simp [Program.elem, ht]
    have hrun : (Instr.sliceAt t (.slice A n c) none (some (.int .i64 k)) none).run P w = .ok (.slice A k c) w := by
      rw [run_sliceAt_slice (w := w) (t := t) (h := ht'), run_slice_h (ht := ht') (h := (k : Int)) (h0 := by omega) (h2 := by omega), he, run_size hin]
      simp [Result.andThen, sliced, map_add_zero]
    unfold Oper.wp execOp
    simp only [ho, Option.map_some, Option.map_none, hx, hh, Sem.run_bind, Sem.run_pure, hrun, Result.andThen_ok]
    exact hK _ _ h
/-- s[k:] of a slice, at its place in a region. -/
theorem wpList_lo {ops : Array Oper} {rest : List Oper} {a : Act} {Q : Exit → Act → World → Prop} {w : World} {o : Oper} (hgd : o.guard = none) (x lo : Operand) (t : TypeId) (ho : o.op = .slice t x (some lo) none none)
    (e : TypeId) (i : TypeInfo) (ht : P.underlying t = some (.slice e)) (hin : P.info? e = some i) (sz : Nat) (hsz : i.size = sz) (A : Option Addr) (n c k : Nat) (hx : a.eval x = .slice A n c) (hh : a.eval lo = .int .i64 k) (hk : k ≤ n)
    (h : wpList P ops Q rest (a.put o.dst (.slice (if c = k then A else A.map (·.add (k * sz))) (n - k) (c - k))) w) : wpList P ops Q (o :: rest) a w :=
  wpList_plain hgd fun K hK => by
    have ht' : P.underlying t = some (.slice (P.elem t)) := by simp [Program.elem, ht]
    have he : P.elem t = e := by simp [Program.elem, ht]
    have hrun : (Instr.sliceAt t (.slice A n c) (some (.int .i64 k)) none none).run P w = .ok (.slice (if c = k then A else A.map (·.add (k * sz))) (n - k) (c - k)) w := by
      rw [run_sliceAt_slice (w := w) (t := t) (h := ht'), run_slice_l (ht := ht') (l := (k : Int)) (h0 := by omega) (h1 := by omega), he, run_size hin]
      simp [Result.andThen, sliced, hsz]
    unfold Oper.wp execOp
    simp only [ho, Option.map_some, Option.map_none, hx, hh, Sem.run_bind, Sem.run_pure, hrun, Result.andThen_ok]
    exact hK _ _ h
end
theorem info24 : (Tryz.prog.info? 24).map (fun i => (i.zero, i.size, i.bytes)) = some (some (.agg #[.string ⟨#[]⟩, .string ⟨#[]⟩]), 2, 32) := by kernel_rfl
theorem info9 : (Tryz.prog.info? 9).map (fun i => (i.zero, i.size, i.bytes)) = some (some (.string ⟨#[]⟩), 1, 16) := by kernel_rfl
theorem info4 : (Tryz.prog.info? 4).map (fun i => (i.zero, i.size, i.bytes)) = some (some (.bool false), 1, 1) := by kernel_rfl
theorem info28 : (Tryz.prog.info? 28).map (fun i => (i.zero, i.size, i.bytes)) = some (some (.agg #[.int .i64 0, .string ⟨#[]⟩, .string ⟨#[]⟩, .string ⟨#[]⟩, .slice none 0 0, .slice none 0 0]), 6, 104) := by kernel_rfl
/-- A slice that the call itself made: it owns the elements l. -/
def OwnV {α : Type} (w : World) (base : Nat) (e : TypeId) (sz : Nat) (cells : α → List Value) (l : List α) (v : Value) : Prop := w.ownsRow base e sz v l.length (l.flatMap cells)
theorem flat_len {α : Type} {cells : α → List Value} {sz : Nat} (hl : ∀ x, (cells x).length = sz) (l : List α) : (l.flatMap cells).length = l.length * sz := by
  induction l with
  | nil => simp
  | cons x l ih => rw [List.flatMap_cons, List.length_append, hl, ih, List.length_cons, Nat.add_mul]; omega
theorem flat_get {α : Type} {cells : α → List Value} {sz : Nat} (hl : ∀ x, (cells x).length = sz) : ∀ (l : List α) (i j : Nat) (x : α), l[i]? = some x → j < sz → (l.flatMap cells)[i * sz + j]? = (cells x)[j]?
  | [], i, j, x, h, _ => by simp at h
  | y :: l, 0, j, x, h, hj => by
    obtain rfl : y = x := by simpa using h
    rw [List.flatMap_cons, Nat.zero_mul, Nat.zero_add, List.getElem?_append_left (by rw [hl]; exact hj)]
  | y :: l, i + 1, j, x, h, hj => by
    rw [List.flatMap_cons, List.getElem?_append_right (by rw [hl, Nat.add_mul]; omega), hl, show (i + 1) * sz + j - sz = i * sz + j by rw [Nat.add_mul]; omega]
    exact flat_get hl l i j x (by simpa using h) hj
theorem nm_len (x : Nm) : (nmV x).length = 2 := rfl
theorem str_len (x : ByteArray) : (strV x).length = 1 := rfl
theorem bool_len (x : Bool) : (boolV x).length = 1 := rfl
theorem nm_one (l : List Nm) : ∀ u ∈ l.flatMap nmV, u.oneCell' = true := by
  intro u hu
  obtain ⟨x, _, hx⟩ := List.mem_flatMap.1 hu
  simp [nmV] at hx
  rcases hx with rfl | rfl <;> rfl
theorem str_one (l : List ByteArray) : ∀ u ∈ l.flatMap strV, u.oneCell' = true := by
  intro u hu
  obtain ⟨x, _, hx⟩ := List.mem_flatMap.1 hu
  simp [strV] at hx
  rw [hx]; rfl
theorem bool_one (l : List Bool) : ∀ u ∈ l.flatMap boolV, u.oneCell' = true := by
  intro u hu
  obtain ⟨x, _, hx⟩ := List.mem_flatMap.1 hu
  simp [boolV] at hx
  rw [hx]; rfl
/-- What is owned is read; and its length is at most its capacity. -/
theorem OwnV.row {α : Type} {w : World} {base : Nat} {e : TypeId} {sz : Nat} {cells : α → List Value} {l : List α} {v : Value} (h : OwnV w base e sz cells l v) (hl : ∀ x, (cells x).length = sz) (_hsz : 0 < sz) :
    ∃ A c, v = .slice A l.length c ∧ RowV w (fun b => base ≤ b ∧ b < w.heap.size) sz cells l A l.length ∧ l.length ≤ c ∧ c ≤ maxLen := by
  obtain ⟨h1, h2⟩ := h
  rcases h2 with ⟨rfl, hn⟩ | ⟨g, cap, cur, rfl, hg, hh, hnc, hcm, hsize, hcur⟩
  · have : l = [] := List.eq_nil_of_length_eq_zero hn
    subst this
    exact ⟨none, 0, rfl, ⟨rfl, fun h => by simp at h⟩, Nat.le_refl _, by unfold maxLen; omega⟩
  · refine ⟨_, cap, rfl, ⟨rfl, fun _ => ⟨g, 0, rfl, ⟨hg, hp_lt hh⟩, fun i x hx j v hv => ?_⟩⟩, hnc, hcm⟩
    have hj : j < sz := by
      rcases Nat.lt_or_ge j sz with h | h
      · exact h
      · rw [List.getElem?_eq_none (by rw [hl]; exact h)] at hv; cases hv
    have hil : i < l.length := (List.getElem?_eq_some_iff.1 hx).1
    have hlt : i * sz + j < l.length * sz := by
      have : (i + 1) * sz ≤ l.length * sz := Nat.mul_le_mul_right _ hil
      rw [Nat.add_mul] at this; omega
    have e1 := flat_get hl l i j x hx hj
    rw [← hcur, List.getElem?_take_of_lt hlt] at e1
    rw [cell_of_row w g _ _ _ _ hh, ← hv, ← e1]
    simp
theorem OwnV.nil {α : Type} (w : World) (base : Nat) (e : TypeId) (sz : Nat) (cells : α → List Value) : OwnV w base e sz cells ([] : List α) (.slice none 0 0) := ⟨by simp, .inl ⟨rfl, rfl⟩⟩
theorem OwnV.grown {α : Type} {w w' : World} {base : Nat} {e : TypeId} {sz : Nat} {cells : α → List Value} {l : List α} {v : Value} (h : OwnV w base e sz cells l v) (hk : ∀ k, k < w.heap.size → some k = v.ownBlock → w'.heap[k]? = w.heap[k]?) : OwnV w' base e sz cells l v := by
  refine ⟨h.1, ?_⟩
  rcases h.2 with h2 | ⟨g, cap, cur, rfl, hg, hh, r⟩
  · exact .inl h2
  · exact .inr ⟨g, cap, cur, rfl, hg, (hk g (hp_lt hh) rfl).trans hh, r⟩
/-- A slice's blocks are there. -/
theorem RowV.both {α : Type} {w : World} {F : Nat → Prop} {sz : Nat} {cells : α → List Value} {l : List α} {A : Option Addr} {n : Nat} (h : RowV w F sz cells l A n) (hl : ∀ x, (cells x).length = sz) (hsz : 0 < sz) : RowV w (fun b => F b ∧ b < w.heap.size) sz cells l A n := by
  refine ⟨h.1, fun hp => ?_⟩
  obtain ⟨b, off, hA, hb, hc⟩ := h.2 hp
  refine ⟨b, off, hA, ⟨hb, ?_⟩, hc⟩
  obtain ⟨x, r, rfl⟩ := List.exists_cons_of_ne_nil (List.ne_nil_of_length_pos hp)
  have h0 := hl x
  obtain ⟨v, hv⟩ : ∃ v, (cells x)[0]? = some v := ⟨_, List.getElem?_eq_getElem (by omega)⟩
  exact World.block_lt_of_cell? w _ (hc 0 x rfl 0 v hv)
theorem RowV.imp {α : Type} {w : World} {F F' : Nat → Prop} {sz : Nat} {cells : α → List Value} {l : List α} {A : Option Addr} {n : Nat} (h : RowV w F sz cells l A n) (hF : ∀ b, F b → F' b) : RowV w F' sz cells l A n :=
  ⟨h.1, fun hp => let ⟨b, off, hA, hb, hc⟩ := h.2 hp; ⟨b, off, hA, hF b hb, hc⟩⟩
/-- What the append needs of an element's type. -/
def ElemTy (P : Program) (t e : TypeId) (z : Value) (sz bytes : Nat) : Prop :=
  P.underlying t = some (.slice e) ∧ ∃ i, P.info? e = some i ∧ i.zero = some z ∧ i.size = sz ∧ i.bytes = bytes ∧ z.cells.size = sz ∧ 0 < sz ∧ bytes ≤ 1000
theorem elemTy_of {P : Program} {t e : TypeId} {z : Value} {sz bytes : Nat} (ht : P.underlying t = some (.slice e)) (h : (P.info? e).map (fun i => (i.zero, i.size, i.bytes)) = some (some z, sz, bytes)) (hz : z.cells.size = sz) (h0 : 0 < sz) (hb : bytes ≤ 1000) : ElemTy P t e z sz bytes := by
  refine ⟨ht, ?_⟩
  cases hi : P.info? e with
  | none => rw [hi] at h; cases h
  | some i =>
    rw [hi] at h
    simp only [Option.map_some, Option.some.injEq, Prod.mk.injEq] at h
    exact ⟨i, rfl, h.1, h.2.1, h.2.2, hz, h0, hb⟩
theorem tyN : ElemTy Tryz.prog 48 24 (.agg #[.string ⟨#[]⟩, .string ⟨#[]⟩]) 2 32 := elemTy_of (by kernel_rfl) info24 (by kernel_rfl) (by decide) (by decide)
theorem tyS : ElemTy Tryz.prog 87 9 (.string ⟨#[]⟩) 1 16 := elemTy_of (by kernel_rfl) info9 (by kernel_rfl) (by decide) (by decide)
theorem tyB : ElemTy Tryz.prog 37 4 (.bool false) 1 1 := elemTy_of (by kernel_rfl) info4 (by kernel_rfl) (by decide) (by decide)
theorem tyC : ElemTy Tryz.prog 22 28 (.agg #[.int .i64 0, .string ⟨#[]⟩, .string ⟨#[]⟩, .string ⟨#[]⟩, .slice none 0 0, .slice none 0 0]) 6 104 := elemTy_of (by kernel_rfl) info28 (by kernel_rfl) (by decide) (by decide)
/-- Of what a slice owns, the block lies from base on. -/
theorem ownBlock_ge {w : World} {base : Nat} {e : TypeId} {sz : Nat} {v : Value} {n : Nat} {xs : List Value} (h : w.ownsRow base e sz v n xs) : ∀ k, some k = v.ownBlock → base ≤ k ∧ k < w.heap.size := by
  intro k hk
  rcases h.2 with ⟨rfl, _⟩ | ⟨g, cap, cur, rfl, hg, hh, _⟩
  · simp [Value.ownBlock] at hk
  · simp [Value.ownBlock] at hk; subst hk; exact ⟨hg, hp_lt hh⟩
theorem grown_below {w w' : World} {base : Nat} {e : TypeId} {sz : Nat} {v : Value} {n : Nat} {xs : List Value} (h : w.ownsRow base e sz v n xs) (hb : base ≤ w.heap.size) (hg : w.grownBy w' v.ownBlock) : Below base w w' :=
  ⟨hg.os, hg.tape, hg.output, hg.size, fun k hk => hg.block k (by omega) (fun e => by have := (ownBlock_ge h k e).1; omega)⟩
/-- append onto what the call owns, at its place in a region. -/
theorem wpList_own {P : Program} {ops : Array Oper} {rest : List Oper} {o : Oper} {a : Act} {Q : Exit → Act → World → Prop} {w : World} (hgd : o.guard = none) (s x : Operand) (t : TypeId)
    (ho : o.op = .call { callee := .builtin .append, args := #[s, x], argTypes := #[t, t] }) {α : Type} {cells : α → List Value} {e : TypeId} {z : Value} {sz bytes : Nat} (hT : ElemTy P t e z sz bytes)
    (h1 : ∀ (l : List α), ∀ u ∈ l.flatMap cells, u.oneCell' = true) (base : Nat) (l l2 : List α) (v : Value) (hs : a.eval s = v) (hown : OwnV w base e sz cells l v)
    (A : Option Addr) (m c : Nat) (hx : a.eval x = .slice A m c) (hr : Src w sz A m (l2.flatMap cells)) (hm : m = l2.length) (hnm : l.length + m < 4000000) (hbase : base ≤ w.heap.size)
    (h : ∀ v' w', OwnV w' base e sz cells (l ++ l2) v' → w.grownBy w' v.ownBlock → (v'.ownBlock = v.ownBlock ∨ v'.ownBlock = some w.heap.size) → wpList P ops Q rest (a.put o.dst v') w') : wpList P ops Q (o :: rest) a w := by
  obtain ⟨ht, i, hi, hz, hsz, hby, hzs, h0, hbt⟩ := hT
  refine wpList_app hgd s x t ho base e i z sz bytes ht hi hz hsz hby hzs h0 v _ _ hs hown A m c _ hx hr (h1 l2) hnm hbt hbase ?_
  intro v' w' h2 h3 h4
  refine h v' w' ?_ h3 h4
  unfold OwnV
  rw [List.length_append, List.flatMap_append, ← hm]
  exact h2
theorem OwnV.fresh {α : Type} {w : World} {base g : Nat} {e : TypeId} {sz : Nat} {cells : α → List Value} (h : w.heap[g]? = some (.cells #[] e (0, 0))) (hg : base ≤ g) : OwnV w base e sz cells ([] : List α) (.slice (some ⟨g, 0, none⟩) 0 0) :=
  ⟨by simp, .inr ⟨g, 0, #[], rfl, hg, h, Nat.le_refl _, by unfold maxLen; omega, by simp, by simp⟩⟩
theorem Src.block {w : World} {g : Nat} {e : TypeId} {fr : Nat × Nat} {sz m : Nat} {vs : List Value} (h : w.heap[g]? = some (.cells vs.toArray e fr)) (hl : vs.length = m * sz) : Src w sz (some ⟨g, 0, none⟩) m vs :=
  ⟨hl, fun _ => ⟨g, 0, rfl, fun j u hu => by rw [cell_of_row w g _ _ _ _ h]; simpa using hu⟩⟩
theorem OwnV.keep {α : Type} {w w' : World} {base : Nat} {e : TypeId} {sz : Nat} {cells : α → List Value} {l : List α} {v : Value} (h : OwnV w base e sz cells l v) (hb : Below w.heap.size w w') : OwnV w' base e sz cells l v :=
  h.grown fun k hk _ => hb.block k hk
theorem wpList_hiT {P : Program} {ops : Array Oper} {rest : List Oper} {a : Act} {Q : Exit → Act → World → Prop} {w : World} {o : Oper} (hgd : o.guard = none) (x hi : Operand) (t : TypeId) (ho : o.op = .slice t x none (some hi) none)
    {e : TypeId} {z : Value} {sz bytes : Nat} (hT : ElemTy P t e z sz bytes) (A : Option Addr) (n c k : Nat) (hx : a.eval x = .slice A n c) (hh : a.eval hi = .int .i64 k) (hk : k ≤ c)
    (h : wpList P ops Q rest (a.put o.dst (.slice A k c)) w) : wpList P ops Q (o :: rest) a w := by
  obtain ⟨ht, i, hi', _⟩ := hT
  exact wpList_hi hgd x hi t ho e i ht hi' A n c k hx hh hk h
theorem wpList_loT {P : Program} {ops : Array Oper} {rest : List Oper} {a : Act} {Q : Exit → Act → World → Prop} {w : World} {o : Oper} (hgd : o.guard = none) (x lo : Operand) (t : TypeId) (ho : o.op = .slice t x (some lo) none none)
    {e : TypeId} {z : Value} {sz bytes : Nat} (hT : ElemTy P t e z sz bytes) (A : Option Addr) (n c k : Nat) (hx : a.eval x = .slice A n c) (hh : a.eval lo = .int .i64 k) (hk : k ≤ n) (A2 : Option Addr) (hA : (if c = k then A else A.map (·.add (k * sz))) = A2)
    (h : wpList P ops Q rest (a.put o.dst (.slice A2 (n - k) (c - k))) w) : wpList P ops Q (o :: rest) a w := by
  obtain ⟨ht, i, hi', _, hsz, _⟩ := hT
  subst hA
  exact wpList_lo hgd x lo t ho e i ht hi' sz hsz A n c k hx hh hk h
/-- append, with what stays: the blocks below base. -/
theorem wpList_ownB {P : Program} {ops : Array Oper} {rest : List Oper} {o : Oper} {a : Act} {Q : Exit → Act → World → Prop} {w : World} (hgd : o.guard = none) (s x : Operand) (t : TypeId)
    (ho : o.op = .call { callee := .builtin .append, args := #[s, x], argTypes := #[t, t] }) {α : Type} {cells : α → List Value} {e : TypeId} {z : Value} {sz bytes : Nat} (hT : ElemTy P t e z sz bytes)
    (h1 : ∀ (l : List α), ∀ u ∈ l.flatMap cells, u.oneCell' = true) (base : Nat) (l l2 : List α) (v : Value) (hs : a.eval s = v) (hown : OwnV w base e sz cells l v)
    (A : Option Addr) (m c : Nat) (hx : a.eval x = .slice A m c) (hr : Src w sz A m (l2.flatMap cells)) (hm : m = l2.length) (hnm : l.length + m < 4000000) (hbase : base ≤ w.heap.size)
    (h : ∀ v' w', OwnV w' base e sz cells (l ++ l2) v' → Below base w w' → wpList P ops Q rest (a.put o.dst v') w') : wpList P ops Q (o :: rest) a w :=
  wpList_own hgd s x t ho hT h1 base l l2 v hs hown A m c hx hr hm hnm hbase fun v' w' h2 h3 _ => h v' w' h2 (grown_below hown hbase h3)
/-- A part of a slice that is read: from i on. -/
theorem RowV.src {α : Type} {w : World} {F : Nat → Prop} {sz : Nat} {cells : α → List Value} {l : List α} {A : Option Addr} {n : Nat} (h : RowV w F sz cells l A n) (hl : ∀ x, (cells x).length = sz) (hsz : 0 < sz) (m : Nat) (hm : m ≤ n) : Src w sz A m ((l.take m).flatMap cells) := by
  obtain ⟨hn, hr⟩ := h
  refine ⟨by rw [flat_len hl, List.length_take]; congr 1; omega, fun h0 => ?_⟩
  obtain ⟨b, off, rfl, _, hc⟩ := hr (by omega)
  refine ⟨b, off, rfl, fun j u hu => ?_⟩
  have hj : j < m * sz := by
    have := (List.getElem?_eq_some_iff.1 hu).1
    rw [flat_len hl, List.length_take, Nat.min_eq_left (by omega)] at this
    exact this
  have hq : j / sz < m := (Nat.div_lt_iff_lt_mul hsz).2 hj
  have hr : j % sz < sz := Nat.mod_lt _ hsz
  have e : j = j / sz * sz + j % sz := (Nat.div_add_mod' j sz).symm
  have hx : l[j / sz]? = some (l[j / sz]'(by omega)) := List.getElem?_eq_getElem (by omega)
  have hx' : (l.take m)[j / sz]? = some (l[j / sz]'(by omega)) := by rw [List.getElem?_take_of_lt hq, hx]
  rw [e, flat_get hl _ _ _ _ hx' hr] at hu
  have := hc _ _ hx _ _ hu
  rwa [Nat.add_assoc, ← e] at this
theorem RowV.src_from {α : Type} {w : World} {F : Nat → Prop} {sz : Nat} {cells : α → List Value} {l : List α} {A : Option Addr} {n : Nat} (h : RowV w F sz cells l A n) (hl : ∀ x, (cells x).length = sz) (hsz : 0 < sz) (i c : Nat) (hi : i ≤ n) (hc : n ≤ c) :
    Src w sz (if c = i then A else A.map (·.add (i * sz))) (n - i) ((l.drop i).flatMap cells) := by
  obtain ⟨hn, hr⟩ := h
  refine ⟨by rw [flat_len hl, List.length_drop]; congr 1; omega, fun h0 => ?_⟩
  obtain ⟨b, off, rfl, _, hcl⟩ := hr (by omega)
  rw [if_neg (by omega)]
  refine ⟨b, off + i * sz, by simp [add_cells], fun j u hu => ?_⟩
  have hj : j < (n - i) * sz := by
    have := (List.getElem?_eq_some_iff.1 hu).1
    rw [flat_len hl, List.length_drop] at this
    rw [hn]; exact this
  have hq : j / sz < n - i := (Nat.div_lt_iff_lt_mul hsz).2 hj
  have hr : j % sz < sz := Nat.mod_lt _ hsz
  have e : j = j / sz * sz + j % sz := (Nat.div_add_mod' j sz).symm
  have hx : l[i + j / sz]? = some (l[i + j / sz]'(by omega)) := List.getElem?_eq_getElem (by omega)
  have hx' : (l.drop i)[j / sz]? = some (l[i + j / sz]'(by omega)) := by rw [List.getElem?_drop, hx]
  rw [e, flat_get hl _ _ _ _ hx' hr] at hu
  have := hcl _ _ hx _ _ hu
  rw [Nat.add_mul] at this
  rwa [show off + i * sz + j = off + (i * sz + j / sz * sz) + j % sz by omega]
end Go.Proofs.YtfildbkkmnfekaaGreatDoor
