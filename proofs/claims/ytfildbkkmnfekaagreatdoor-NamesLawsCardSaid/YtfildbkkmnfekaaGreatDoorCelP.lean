/- For Cells: the cells, the row that a loop owns, the blocks of answers. -/
import Derived.Test.YtfildbkkmnfekaaGreatDoorG33
import Derived.Test.YtfildbkkmnfekaaGreatDoorDatA
import Derived.Test.YtfildbkkmnfekaaGreatDoorMentP
import Derived.RangeFuncNested
import Derived.RangeFuncBound
import Derived.RangeFuncCalls
import Derived.RangeFuncLeaves
import Derived.Shelf.Abstract
import Derived.Shelf.RegionOpen
import Derived.WalkKit
import Derived.OwnWalkIn
import Derived.TacticsInMore
import Derived.LoopNIn
import Derived.LoopIn
import Derived.Lib.Hide
import Derived.WalkSpells
import Derived.WalkLawsBesides
import Derived.Deep.DeepFit
import Derived.Lib.AppendIntMem
import Derived.Laws.MakeOwn
import Derived.Laws.BytesString
namespace Go.Proofs.YtfildbkkmnfekaaGreatDoor
open Go.RowKit Go.Shelf
attribute [local go_sem] Oper.semAt_some

/-- Of names in order the first with each answer. -/
def cellsF (q : Nm → List Bool) : List Nm → List (Nm × List Bool) → List (Nm × List Bool)
  | [], out => out
  | x :: r, out => cellsF q r (if out.any (fun o => o.2 == q x) then out else out ++ [(x, q x)])
theorem cellsF_snoc (q : Nm → List Bool) (x : Nm) : ∀ (l : List Nm) (out : List (Nm × List Bool)), cellsF q (l ++ [x]) out = if (cellsF q l out).any (fun o => o.2 == q x) then cellsF q l out else cellsF q l out ++ [(x, q x)]
  | [], out => by rw [List.nil_append, cellsF, cellsF, cellsF]
  | y :: l, out => by rw [List.cons_append, cellsF, cellsF, cellsF_snoc q x l]
theorem cellsF_len (q : Nm → List Bool) : ∀ (l : List Nm) (out : List (Nm × List Bool)), (cellsF q l out).length ≤ out.length + l.length
  | [], out => by simp [cellsF]
  | x :: l, out => by
    rw [cellsF]
    have h := cellsF_len q l (if out.any (fun o => o.2 == q x) then out else out ++ [(x, q x)])
    have h2 : (if out.any (fun o => o.2 == q x) then out else out ++ [(x, q x)]).length ≤ out.length + 1 := by
      split
      · omega
      · simp
    rw [List.length_cons]; omega
def cellD (o : Nm × List Bool) : List D := [.val (.string o.1.1), .val (.string o.1.2), .sl 1 (o.2.map fun b => [.val (.bool b)])]
theorem cellD_iff {w : World} {F : Nat → Prop} {o : Nm × List Bool} {A : Option Addr} {n c : Nat} (h : RowV w F 1 boolV o.2 A n) (hn : n < 2000000) : RepCs w F (cellD o) [.string o.1.1, .string o.1.2, .slice A n c] := by
  unfold cellD
  simp only [RepCs.cons_iff, RepCs.nil_iff, RepV.val_iff, RepV.sl_iff, List.length_map]
  have hl := h.1
  refine ⟨_, _, rfl, rfl, _, _, rfl, rfl, _, _, rfl, ⟨A, c, by rw [hl], by omega, fun hp => ?_⟩, rfl⟩
  obtain ⟨b, off, hA, hb, hc⟩ := h.2 hp
  refine ⟨b, off, hA, hb, RepRow.of_get fun i e he => ?_⟩
  rw [List.getElem?_map] at he
  cases hi : o.2[i]? with
  | none => rw [hi] at he; cases he
  | some v =>
    rw [hi] at he
    obtain rfl : [D.val (.bool v)] = e := by simpa using he
    refine ⟨[.bool v], hc i v hi, ?_⟩
    simp only [RepCs.cons_iff, RepCs.nil_iff, RepV.val_iff]
    exact ⟨_, _, rfl, rfl, rfl⟩
theorem info39 : (Tryz.prog.info? 39).map (fun i => (i.zero, i.size, i.bytes)) = some (some (.agg #[.string ⟨#[]⟩, .string ⟨#[]⟩, .slice none 0 0]), 3, 56) := by kernel_rfl
theorem tyK : ElemTy Tryz.prog 29 39 (.agg #[.string ⟨#[]⟩, .string ⟨#[]⟩, .slice none 0 0]) 3 56 := elemTy_of (by kernel_rfl) info39 (by kernel_rfl) (by decide) (by decide)
/-- The row of cells that the body owns: nothing of it lies in the iterator's blocks T. -/
def OwnT (w : World) (base : Nat) (T : Nat → Prop) (out : List (Nm × List Bool)) (v : Value) : Prop :=
  ∃ xs : List (CellsN 3), OwnV w base 39 3 cN xs v ∧ xs.length = out.length ∧ (∀ k, some k = v.ownBlock → ¬ T k) ∧
    ∀ (i : Nat) (o : Nm × List Bool) (x : CellsN 3), out[i]? = some o → xs[i]? = some x → RepCs w (fun b => (base ≤ b ∧ b < w.heap.size ∧ some b ≠ v.ownBlock) ∧ ¬ T b) (cellD o) x.1
theorem OwnT.nil (w : World) (base : Nat) (T : Nat → Prop) : OwnT w base T [] (.slice none 0 0) := ⟨[], OwnV.nil _ _ _ _ _, rfl, (fun k h => by cases h), (fun i o x h => by simp at h)⟩
theorem OwnT.block {w : World} {base : Nat} {T : Nat → Prop} {out : List (Nm × List Bool)} {v : Value} (h : OwnT w base T out v) : ∀ k, some k = v.ownBlock → base ≤ k ∧ k < w.heap.size ∧ ¬ T k := by
  obtain ⟨xs, h1, _, h3, _⟩ := h
  exact fun k hk => ⟨(ownBlock_ge h1 k hk).1, (ownBlock_ge h1 k hk).2, h3 k hk⟩
theorem OwnT.keep {w w' : World} {base : Nat} {T T' : Nat → Prop} {out : List (Nm × List Bool)} {v : Value} (h : OwnT w base T out v) (hk : ∀ k, base ≤ k → k < w.heap.size → ¬ T k → ¬ T' k ∧ w'.heap[k]? = w.heap[k]?) (hs : w.heap.size ≤ w'.heap.size) : OwnT w' base T' out v := by
  have hb := h.block
  obtain ⟨xs, h1, h2, h3, h4⟩ := h
  refine ⟨xs, h1.grown (fun k hlt e => (hk k (hb k e).1 hlt (hb k e).2.2).2), h2, fun k e => (hk k (hb k e).1 (hb k e).2.1 (hb k e).2.2).1, fun i o x ho hx => (h4 i o x ho hx).keep fun b hF => ?_⟩
  obtain ⟨⟨g1, g2, g3⟩, g4⟩ := hF
  exact ⟨⟨⟨g1, by omega, g3⟩, (hk b g1 g2 g4).1⟩, (hk b g1 g2 g4).2⟩
theorem OwnT.toD {w : World} {base : Nat} {T : Nat → Prop} {out : List (Nm × List Bool)} {v : Value} (h : OwnT w base T out v) : OwnD w base 39 3 (out.map cellD) v := by
  obtain ⟨xs, h1, h2, _, h4⟩ := h
  refine ⟨xs, h1, by simpa using h2, fun i d x hd hx => ?_⟩
  rw [List.getElem?_map] at hd
  cases ho : out[i]? with
  | none => rw [ho] at hd; cases hd
  | some o =>
    rw [ho] at hd
    obtain rfl : cellD o = d := by simpa using hd
    exact (h4 i o x ho hx).keep fun b hF => ⟨hF.1, rfl⟩
/-- append of one cell, laid in a block of its own, in a fence. -/
theorem wpListIn_ownT {F : Fence} {n : Nat} {ops : Array Oper} {rest : List Oper} {o : Oper} {a : Act} {Q : Exit → Act → World → Prop} {w : World} (hgd : o.guard = none) (s x : Operand)
    (hop : o.op = .call { callee := .builtin .append, args := #[s, x], argTypes := #[29, 29] }) (base : Nat) (T : Nat → Prop) (out : List (Nm × List Bool)) (e : Nm × List Bool) (cs : List Value) (v : Value)
    (hs : a.eval s = v) (hown : OwnT w base T out v) (g cap : Nat) (hx : a.eval x = .slice (some ⟨g, 0, none⟩) 1 cap) {fr : Nat × Nat} (hg : w.heap[g]? = some (.cells cs.toArray 39 fr)) (hcs : cs.length = 3 ∧ ∀ u ∈ cs, u.oneCell' = true)
    (hrep : RepCs w (fun b => (base ≤ b ∧ b < w.heap.size ∧ some b ≠ v.ownBlock) ∧ ¬ T b) (cellD e) cs) (hnm : out.length + 1 < 4000000) (hbase : base ≤ w.heap.size) (hT : ∀ k, T k → k < w.heap.size)
    (h : ∀ v' w', OwnT w' base T (out ++ [e]) v' → Kept (fun k => some k = v.ownBlock) w w' → wpListIn F n Tryz.prog ops Q rest (a.put o.dst v') w') : wpListIn F n Tryz.prog ops Q (o :: rest) a w := by
  have hb := hown.block
  obtain ⟨xs, h1, h2, h3, h4⟩ := hown
  refine wpListIn_ownB hgd s x 29 hop tyK cN_one base xs [⟨cs, hcs⟩] v hs h1 (some ⟨g, 0, none⟩) 1 cap hx (by have := Src.block (sz := 3) (m := 1) (vs := cs) hg hcs.1; simpa [cN] using this) rfl (by omega) hbase ?_
  intro v' w' g1 g2 g3
  have key : ∀ (d : List D) (y : List Value), RepCs w (fun b => (base ≤ b ∧ b < w.heap.size ∧ some b ≠ v.ownBlock) ∧ ¬ T b) d y → RepCs w' (fun b => (base ≤ b ∧ b < w'.heap.size ∧ some b ≠ v'.ownBlock) ∧ ¬ T b) d y := by
    intro d y hd
    refine hd.keep fun b hF => ⟨⟨⟨hF.1.1, Nat.lt_of_lt_of_le hF.1.2.1 g2.size, ?_⟩, hF.2⟩, g2.block b hF.1.2.1 hF.1.2.2⟩
    rcases g3 with e | e
    · rw [e]; exact hF.1.2.2
    · rw [e]; intro he; have := Option.some.inj he; omega
  refine h v' w' ⟨xs ++ [⟨cs, hcs⟩], g1, by simp [h2], ?_, ?_⟩ ⟨g2.os, g2.tape, g2.output, g2.size, fun k hk hm => g2.block k hk hm⟩
  · intro k hk
    rcases g3 with e | e
    · exact h3 k (by rw [← e]; exact hk)
    · rw [e] at hk
      intro hT'
      have := Option.some.inj hk
      have := hT k hT'
      omega
  · intro i o' y ho hy
    rcases Nat.lt_or_ge i out.length with hi | hi
    · rw [List.getElem?_append_left hi] at ho
      rw [List.getElem?_append_left (by omega)] at hy
      exact key _ _ (h4 i o' y ho hy)
    · rw [List.getElem?_append_right hi] at ho
      rw [List.getElem?_append_right (by omega), h2] at hy
      have hz : i - out.length = 0 := by
        have := (List.getElem?_eq_some_iff.1 ho).1
        simp at this; omega
      rw [hz] at ho hy
      obtain rfl : e = o' := by simpa using ho
      obtain rfl : (⟨cs, hcs⟩ : CellsN 3) = y := by simpa using hy
      exact key _ _ hrep
/-- m[k] = v, at its place in a region, in a fence. -/
theorem wpListIn_put {κ : Type} {F : Fence} {n : Nat} {P : Program} {ops : Array Oper} {rest : List Oper} {o : Oper} {a : Act} {Q : Exit → Act → World → Prop} {w : World} (hgd : o.guard = none) (m x v : Operand) (mt : TypeId) (hop : o.op = .mapUpdate mt m x v)
    {kt et : TypeId} {enc : κ → Value} {eq : κ → κ → Bool} (K : KeyTy P kt enc eq) (hm : P.underlying mt = some (.map kt et)) (g : Nat) (l : List (κ × Bool)) (hs : a.eval m = .map (some g)) (h : MapIs w g enc l)
    (k : κ) (hk : a.eval x = enc k) (b : Bool) (hv : a.eval v = .bool b)
    (hK : ∀ w', MapIs w' g enc (putM eq k b l) → (∀ b, b ≠ g → w'.heap[b]? = w.heap[b]?) → w'.heap.size = w.heap.size → Kept (· = g) w w' → wpListIn F n P ops Q rest (a.put o.dst undef) w') : wpListIn F n P ops Q (o :: rest) a w := by
  refine wpListIn_plain hgd fun K' hK' => ?_
  obtain ⟨w', hw, h1, h2, h3, h4⟩ := h.put (l' := putM eq k b l)
  have hrun := run_put K hm h k b
  rw [hw] at hrun
  unfold Oper.wpIn
  refine ⟨?_, ?_⟩
  · simp [Oper.about, hop]
  · rw [Oper.semAt_plain F _ _ (by rw [hop]; intro c hc'; cases hc')]
    simp [execOp, hop, hs, hk, hv, hrun, Result.andThen]
    exact hK' _ _ (hK w' h1 h2 h3 h4)
/-- The answers so far, as bools, as bytes. -/
def upTo (q : List Bool) (i n : Nat) : List Bool := q.take i ++ List.replicate (n - i) false
def inA (q : List Bool) (i n : Nat) : Array Value := ((upTo q i n).map Value.bool).toArray
def byA (q : List Bool) (i n : Nat) : Array Value := ((upTo q i n).map fun b => Value.int .u8 (if b then 1 else 0)).toArray
theorem upTo_len {q : List Bool} {i n : Nat} (h : q.length = n) (hi : i ≤ n) : (upTo q i n).length = n := by unfold upTo; rw [List.length_append, List.length_take, List.length_replicate]; omega
theorem upTo_set {q : List Bool} {i n : Nat} {v : Bool} (h : q.length = n) (hq : q[i]? = some v) : (upTo q i n).set i v = upTo q (i + 1) n := by
  obtain ⟨h1, h2⟩ := List.getElem?_eq_some_iff.1 hq
  unfold upTo
  rw [List.set_append_right _ _ (by rw [List.length_take]; omega), List.length_take, show i - min i q.length = 0 by omega, List.take_succ_eq_append_getElem h1, h2]
  obtain ⟨k, hk⟩ : ∃ k, n - i = k + 1 := ⟨n - i - 1, by omega⟩
  rw [hk, List.replicate_succ, List.set_cons_zero, List.append_assoc, show n - (i + 1) = k by omega]
  rfl
theorem upTo_get {q : List Bool} {i n : Nat} (h : q.length = n) (hi : i < n) : (upTo q i n)[i]? = some false := by
  unfold upTo
  rw [List.getElem?_append_right (by rw [List.length_take]; omega), List.length_take, show i - min i q.length = 0 by omega]
  obtain ⟨k, hk⟩ : ∃ k, n - i = k + 1 := ⟨n - i - 1, by omega⟩
  rw [hk, List.replicate_succ]; rfl
theorem upTo_all {q : List Bool} {n : Nat} (h : q.length = n) : upTo q n n = q := by unfold upTo; rw [List.take_of_length_le (by omega)]; simp
theorem upTo_false {q : List Bool} {i n : Nat} (h : q.length = n) (hq : q[i]? = some false) : upTo q (i + 1) n = upTo q i n := by
  rw [← upTo_set h hq]
  have := upTo_get (i := i) h (by have := (List.getElem?_eq_some_iff.1 hq).1; omega)
  obtain ⟨h1, h2⟩ := List.getElem?_eq_some_iff.1 this
  rw [← h2, List.set_getElem_self]
theorem inA_set {q : List Bool} {i n : Nat} {v : Bool} (h : q.length = n) (hq : q[i]? = some v) : (inA q i n).setIfInBounds i (.bool v) = inA q (i + 1) n := by
  unfold inA
  rw [← upTo_set h hq, List.setIfInBounds_toArray, List.map_set]
theorem byA_set {q : List Bool} {i n : Nat} (h : q.length = n) (hq : q[i]? = some true) : (byA q i n).setIfInBounds i (.int .u8 1) = byA q (i + 1) n := by
  unfold byA
  rw [← upTo_set h hq, List.setIfInBounds_toArray, List.map_set]; rfl
theorem made_in (q : List Bool) (n : Nat) : madeCells (Value.bool false).cells (n * 1) = inA q 0 n := by
  unfold inA upTo madeCells
  apply Array.ext
  · simp
  · intro i h1 h2
    simp [Value.cells, Nat.mod_one]
theorem made_by (q : List Bool) (n : Nat) : madeCells (Value.int .u8 0).cells (n * 1) = byA q 0 n := by
  unfold byA upTo madeCells
  apply Array.ext
  · simp
  · intro i h1 h2
    simp [Value.cells, Nat.mod_one]
end Go.Proofs.YtfildbkkmnfekaaGreatDoor
