/- Data in general; rows of classes that the call owns. -/
import Derived.Test.YtfildbkkmnfekaaGreatDoorG18
import Derived.Test.YtfildbkkmnfekaaGreatDoorTogA
import Derived.WalkKit
import Derived.WalkSpells
import Derived.WalkLawsBesides
import Derived.BigGuardPart
import Derived.Lib.Hide
import Derived.Deep.QuietTactic
import Derived.BigQuiet
import Derived.StillTailTactics
import Derived.Deep.DeepCutAuto
import Derived.Deep.CutBlock
import Derived.Laws.EntriesVeiled
namespace Go.Proofs.YtfildbkkmnfekaaGreatDoor
open Go.RowKit

/-- Data: a cell's own value, or a slice of elements of sz cells each. -/
inductive D where
  | val (v : Value)
  | sl (sz : Nat) (es : List (List D))

mutual
def RepV (w : World) (F : Nat → Prop) : D → Value → Prop
  | .val v, u => u = v
  | .sl sz es, u => ∃ A c, u = .slice A es.length c ∧ es.length < 2000000000000 ∧ (0 < es.length → ∃ b off, A = some ⟨b, off, none⟩ ∧ F b ∧ RepRow w F sz es b off)
def RepRow (w : World) (F : Nat → Prop) (sz : Nat) : List (List D) → Nat → Nat → Prop
  | [], _, _ => True
  | e :: es, b, off => (∃ cs, CellsAt w b off cs ∧ RepCs w F e cs) ∧ RepRow w F sz es b (off + sz)
def RepCs (w : World) (F : Nat → Prop) : List D → List Value → Prop
  | [], cs => cs = []
  | d :: ds, cs => ∃ v r, cs = v :: r ∧ RepV w F d v ∧ RepCs w F ds r
end
theorem RepV.val_iff {w : World} {F : Nat → Prop} {v u : Value} : RepV w F (.val v) u ↔ u = v := by rw [RepV]
theorem RepV.sl_iff {w : World} {F : Nat → Prop} {sz : Nat} {es : List (List D)} {u : Value} : RepV w F (.sl sz es) u ↔ ∃ A c, u = .slice A es.length c ∧ es.length < 2000000000000 ∧ (0 < es.length → ∃ b off, A = some ⟨b, off, none⟩ ∧ F b ∧ RepRow w F sz es b off) := by rw [RepV]
theorem RepCs.nil_iff {w : World} {F : Nat → Prop} {cs : List Value} : RepCs w F [] cs ↔ cs = [] := by rw [RepCs]
theorem RepCs.cons_iff {w : World} {F : Nat → Prop} {d : D} {ds : List D} {cs : List Value} : RepCs w F (d :: ds) cs ↔ ∃ v r, cs = v :: r ∧ RepV w F d v ∧ RepCs w F ds r := by rw [RepCs]
theorem RepRow.cons_iff {w : World} {F : Nat → Prop} {sz : Nat} {e : List D} {es : List (List D)} {b off : Nat} : RepRow w F sz (e :: es) b off ↔ (∃ cs, CellsAt w b off cs ∧ RepCs w F e cs) ∧ RepRow w F sz es b (off + sz) := by rw [RepRow]
theorem RepCs.len {w : World} {F : Nat → Prop} : ∀ {ds : List D} {cs : List Value}, RepCs w F ds cs → cs.length = ds.length
  | [], cs, h => by rw [RepCs.nil_iff] at h; rw [h]; rfl
  | d :: ds, cs, h => by
    rw [RepCs.cons_iff] at h
    obtain ⟨v, r, rfl, _, hr⟩ := h
    rw [List.length_cons, List.length_cons, hr.len]
mutual
theorem RepV.keep {w w' : World} {F F' : Nat → Prop} (hF : ∀ b, F b → F' b ∧ w'.heap[b]? = w.heap[b]?) : ∀ (d : D) (v : Value), RepV w F d v → RepV w' F' d v
  | .val v, u, h => by rw [RepV] at h ⊢; exact h
  | .sl sz es, u, h => by
    rw [RepV] at h ⊢
    obtain ⟨A, c, e, hl, h1⟩ := h
    refine ⟨A, c, e, hl, fun hp => ?_⟩
    obtain ⟨b, off, ha, hb, hr⟩ := h1 hp
    exact ⟨b, off, ha, (hF b hb).1, RepRow.keep hF sz es b off (hF b hb).2 hr⟩
theorem RepRow.keep {w w' : World} {F F' : Nat → Prop} (hF : ∀ b, F b → F' b ∧ w'.heap[b]? = w.heap[b]?) (sz : Nat) : ∀ (es : List (List D)) (b off : Nat), w'.heap[b]? = w.heap[b]? → RepRow w F sz es b off → RepRow w' F' sz es b off
  | [], _, _, _, _ => by rw [RepRow]; trivial
  | e :: es, b, off, hb, h => by
    rw [RepRow] at h ⊢
    obtain ⟨⟨cs, hc, hr⟩, hl⟩ := h
    exact ⟨⟨cs, hc.keep hb, RepCs.keep hF e cs hr⟩, RepRow.keep hF sz es b (off + sz) hb hl⟩
theorem RepCs.keep {w w' : World} {F F' : Nat → Prop} (hF : ∀ b, F b → F' b ∧ w'.heap[b]? = w.heap[b]?) : ∀ (ds : List D) (cs : List Value), RepCs w F ds cs → RepCs w' F' ds cs
  | [], _, h => by rw [RepCs] at h ⊢; exact h
  | d :: ds, cs, h => by
    rw [RepCs] at h ⊢
    obtain ⟨v, r, e, h1, h2⟩ := h
    exact ⟨v, r, e, RepV.keep hF d v h1, RepCs.keep hF ds r h2⟩
end
theorem RepRow.get {w : World} {F : Nat → Prop} {sz : Nat} : ∀ {es : List (List D)} {b off : Nat} (_ : RepRow w F sz es b off) (i : Nat) (e : List D), es[i]? = some e → ∃ cs, CellsAt w b (off + i * sz) cs ∧ RepCs w F e cs
  | [], b, off, h, i, c, hi => by simp at hi
  | c :: l, b, off, h, 0, c', hi => by
    rw [RepRow] at h
    obtain rfl : c = c' := by simpa using hi
    simpa using h.1
  | c :: l, b, off, h, i + 1, c', hi => by
    rw [RepRow] at h
    have := h.2.get i c' (by simpa using hi)
    rwa [show off + sz + i * sz = off + (i + 1) * sz by rw [Nat.add_mul]; omega] at this
theorem RepRow.of_get {w : World} {F : Nat → Prop} {sz : Nat} : ∀ {es : List (List D)} {b off : Nat}, (∀ (i : Nat) (e : List D), es[i]? = some e → ∃ cs, CellsAt w b (off + i * sz) cs ∧ RepCs w F e cs) → RepRow w F sz es b off
  | [], b, off, h => by rw [RepRow]; trivial
  | c :: l, b, off, h => by
    rw [RepRow]
    refine ⟨by simpa using h 0 c rfl, RepRow.of_get fun i e he => ?_⟩
    have := h (i + 1) e (by simpa using he)
    rwa [show off + (i + 1) * sz = off + sz + i * sz by rw [Nat.add_mul]; omega] at this
/-- A class as data. -/
def clsD : Cls → List D
  | .mk k ns nl s ex ar => [.val (.int .i64 k), .val (.string ns), .val (.string nl), .val (.string s), .sl 6 (clsL ex), .sl 6 (clsL ar)]
where clsL : List Cls → List (List D)
  | [] => []
  | c :: l => clsD c :: clsL l
theorem clsL_map (l : List Cls) : clsD.clsL l = l.map clsD := by
  induction l with
  | nil => rfl
  | cons c l ih => rw [clsD.clsL, ih, List.map_cons]
theorem clsD_mk (k : Int) (ns nl s : ByteArray) (ex ar : List Cls) : clsD (.mk k ns nl s ex ar) = [.val (.int .i64 k), .val (.string ns), .val (.string nl), .val (.string s), .sl 6 (ex.map clsD), .sl 6 (ar.map clsD)] := by
  rw [clsD, clsL_map, clsL_map]
theorem clsD_len (c : Cls) : (clsD c).length = 6 := by cases c; rw [clsD_mk]; rfl
mutual
theorem repC_iff (w : World) (F : Nat → Prop) : ∀ (c : Cls) (cs : List Value), RepC w F c cs ↔ RepCs w F (clsD c) cs
  | .mk k ns nl s ex ar, cs => by
    rw [RepC, clsD_mk]
    simp only [RepCs.cons_iff, RepCs.nil_iff, RepV.val_iff, RepV.sl_iff, List.length_map]
    constructor
    · rintro ⟨A, c, A', c', rfl, h1, h2, h3, h4⟩
      refine ⟨_, _, rfl, rfl, _, _, rfl, rfl, _, _, rfl, rfl, _, _, rfl, rfl, _, _, rfl, ⟨A, c, rfl, h1, fun hp => ?_⟩, _, _, rfl, ⟨A', c', rfl, h2, fun hp => ?_⟩, rfl⟩
      · obtain ⟨b, off, e, hb, hr⟩ := h3 hp
        exact ⟨b, off, e, hb, (repR_iff w F ex b off).1 hr⟩
      · obtain ⟨b, off, e, hb, hr⟩ := h4 hp
        exact ⟨b, off, e, hb, (repR_iff w F ar b off).1 hr⟩
    · rintro ⟨_, _, rfl, rfl, _, _, rfl, rfl, _, _, rfl, rfl, _, _, rfl, rfl, _, _, rfl, ⟨A, c, rfl, h1, h3⟩, _, _, rfl, ⟨A', c', rfl, h2, h4⟩, rfl⟩
      refine ⟨A, c, A', c', rfl, h1, h2, fun hp => ?_, fun hp => ?_⟩
      · obtain ⟨b, off, e, hb, hr⟩ := h3 hp
        exact ⟨b, off, e, hb, (repR_iff w F ex b off).2 hr⟩
      · obtain ⟨b, off, e, hb, hr⟩ := h4 hp
        exact ⟨b, off, e, hb, (repR_iff w F ar b off).2 hr⟩
theorem repR_iff (w : World) (F : Nat → Prop) : ∀ (l : List Cls) (b off : Nat), RepR w F l b off ↔ RepRow w F 6 (l.map clsD) b off
  | [], _, _ => by rw [RepR, List.map_nil, RepRow]
  | c :: l, b, off => by
    rw [RepR, List.map_cons, RepRow, repR_iff w F l b (off + 6)]
    constructor
    · rintro ⟨⟨cs, h1, h2⟩, h3⟩; exact ⟨⟨cs, h1, (repC_iff w F c cs).1 h2⟩, h3⟩
    · rintro ⟨⟨cs, h1, h2⟩, h3⟩; exact ⟨⟨cs, h1, (repC_iff w F c cs).2 h2⟩, h3⟩
end
theorem rowL_iff {w : World} {F : Nat → Prop} {l : List Cls} {A : Option Addr} {n : Nat} : RowL w F l A n ↔ n = l.length ∧ (0 < l.length → ∃ b off, A = some ⟨b, off, none⟩ ∧ F b ∧ RepRow w F 6 (l.map clsD) b off) := by
  unfold RowL
  simp only [repR_iff]
/-- An element's cells. -/
abbrev CellsN (sz : Nat) := { l : List Value // l.length = sz ∧ ∀ u ∈ l, u.oneCell' = true }
def cN {sz : Nat} (x : CellsN sz) : List Value := x.1
theorem cN_len {sz : Nat} (x : CellsN sz) : (cN x).length = sz := x.2.1
theorem cN_one {sz : Nat} (l : List (CellsN sz)) : ∀ u ∈ l.flatMap cN, u.oneCell' = true := by
  intro u hu
  obtain ⟨x, _, hx⟩ := List.mem_flatMap.1 hu
  exact x.2.2 u hx
/-- A slice that the call itself made, of elements es: what they lead to lies beside it, in blocks of F. -/
def OwnD (w : World) (base : Nat) (e : TypeId) (sz : Nat) (es : List (List D)) (v : Value) : Prop :=
  ∃ xs : List (CellsN sz), OwnV w base e sz cN xs v ∧ xs.length = es.length ∧ ∀ (i : Nat) (d : List D) (x : CellsN sz), es[i]? = some d → xs[i]? = some x → RepCs w (fun b => base ≤ b ∧ b < w.heap.size ∧ some b ≠ v.ownBlock) d x.1
theorem OwnD.nil (w : World) (base : Nat) (e : TypeId) (sz : Nat) : OwnD w base e sz [] (.slice none 0 0) := ⟨[], OwnV.nil _ _ _ _ _, rfl, fun i d x h => by simp at h⟩
theorem OwnD.keep {w w' : World} {base : Nat} {e : TypeId} {sz : Nat} {es : List (List D)} {v : Value} (h : OwnD w base e sz es v) (hb : Below w.heap.size w w') : OwnD w' base e sz es v := by
  obtain ⟨xs, h1, h2, h3⟩ := h
  exact ⟨xs, h1.keep hb, h2, fun i d x hd hx => (h3 i d x hd hx).keep (fun b hF => ⟨⟨hF.1, Nat.lt_of_lt_of_le hF.2.1 hb.size, hF.2.2⟩, hb.block b hF.2.1⟩)⟩
theorem OwnD.block {w : World} {base : Nat} {e : TypeId} {sz : Nat} {es : List (List D)} {v : Value} (h : OwnD w base e sz es v) : ∀ k, some k = v.ownBlock → base ≤ k ∧ k < w.heap.size := by
  obtain ⟨xs, h1, _⟩ := h
  exact ownBlock_ge h1
/-- What is owned is read as a row. -/
theorem OwnD.row {w : World} {base : Nat} {e : TypeId} {sz : Nat} {es : List (List D)} {v : Value} (h : OwnD w base e sz es v) (hsz : 0 < sz) {F : Nat → Prop} (hF2 : ∀ b, base ≤ b → b < w.heap.size → F b) :
    ∃ A c, v = .slice A es.length c ∧ (0 < es.length → ∃ b off, A = some ⟨b, off, none⟩ ∧ F b ∧ RepRow w F sz es b off) ∧ es.length ≤ c ∧ c ≤ maxLen := by
  obtain ⟨xs, h1, h2, h3⟩ := h
  obtain ⟨A, c, hv, hrow, hc, hm⟩ := h1.row cN_len hsz
  rw [h2] at hv hc
  refine ⟨A, c, hv, fun hp => ?_, hc, hm⟩
  obtain ⟨b, off, hA, ⟨hb1, hb2⟩, hr⟩ := hrow.2 (by omega)
  refine ⟨b, off, hA, hF2 b hb1 hb2, RepRow.of_get fun i d hd => ?_⟩
  have hi : i < xs.length := by rw [h2]; exact (List.getElem?_eq_some_iff.1 hd).1
  exact ⟨_, hr i xs[i] (List.getElem?_eq_getElem hi), (h3 i d xs[i] hd (List.getElem?_eq_getElem hi)).keep fun b hb => ⟨hF2 b hb.1 hb.2.1, rfl⟩⟩
/-- append of elements ds, which lie in the source's cells: at its place in a region. -/
theorem wpList_ownD {P : Program} {ops : Array Oper} {rest : List Oper} {o : Oper} {a : Act} {Q : Exit → Act → World → Prop} {w : World} (hgd : o.guard = none) (s x : Operand) (t : TypeId)
    (ho : o.op = .call { callee := .builtin .append, args := #[s, x], argTypes := #[t, t] }) {e : TypeId} {z : Value} {sz bytes : Nat} (hT : ElemTy P t e z sz bytes)
    (base : Nat) (es ds : List (List D)) (ys : List (CellsN sz)) (v : Value) (hs : a.eval s = v) (hown : OwnD w base e sz es v)
    (A : Option Addr) (m c : Nat) (hx : a.eval x = .slice A m c) (hr : Src w sz A m (ys.flatMap cN)) (hm : m = ds.length) (hyl : ys.length = ds.length)
    (hrep : ∀ (i : Nat) (d : List D) (y : CellsN sz), ds[i]? = some d → ys[i]? = some y → RepCs w (fun b => base ≤ b ∧ b < w.heap.size ∧ some b ≠ v.ownBlock) d y.1)
    (hnm : es.length + m < 4000000) (hbase : base ≤ w.heap.size)
    (h : ∀ v' w', OwnD w' base e sz (es ++ ds) v' → Below base w w' → wpList P ops Q rest (a.put o.dst v') w') : wpList P ops Q (o :: rest) a w := by
  obtain ⟨xs, h1, h2, h3⟩ := hown
  refine wpList_own hgd s x t ho hT cN_one base xs ys v hs h1 A m c hx hr (by omega) (by omega) hbase ?_
  intro v' w' h4 h5 h6
  refine h v' w' ⟨xs ++ ys, h4, by simp [h2, hyl], ?_⟩ (grown_below h1 hbase h5)
  have key : ∀ (d : List D) (y : List Value), RepCs w (fun b => base ≤ b ∧ b < w.heap.size ∧ some b ≠ v.ownBlock) d y → RepCs w' (fun b => base ≤ b ∧ b < w'.heap.size ∧ some b ≠ v'.ownBlock) d y := by
    intro d y hd
    refine hd.keep fun b hb => ⟨⟨hb.1, Nat.lt_of_lt_of_le hb.2.1 h5.size, ?_⟩, h5.block b hb.2.1 hb.2.2⟩
    rcases h6 with e | e
    · rw [e]; exact hb.2.2
    · rw [e]; intro he; have := Option.some.inj he; omega
  intro i d y hd hy
  rcases Nat.lt_or_ge i es.length with hi | hi
  · rw [List.getElem?_append_left hi] at hd
    rw [List.getElem?_append_left (by omega)] at hy
    exact key _ _ (h3 i d y hd hy)
  · rw [List.getElem?_append_right hi] at hd
    rw [List.getElem?_append_right (by omega), h2] at hy
    exact key _ _ (hrep _ d y hd hy)
theorem one_val {w : World} {F : Nat → Prop} : ∀ {c : Cls} {cs : List Value}, RepC w F c cs → cs.length = 6 ∧ ∀ u ∈ cs, u.oneCell' = true := by
  intro c cs h
  obtain ⟨k, ns, nl, s, A, n, c0, A', n', c0', rfl⟩ := h.cells
  refine ⟨rfl, ?_⟩
  intro u hu
  simp only [List.mem_cons, List.not_mem_nil, or_false] at hu
  rcases hu with rfl | rfl | rfl | rfl | rfl | rfl <;> rfl
/-- A row of classes that the call owns. -/
abbrev OwnC (w : World) (base : Nat) (l : List Cls) (v : Value) : Prop := OwnD w base 28 6 (l.map clsD) v
theorem OwnC.rowL {w : World} {base : Nat} {l : List Cls} {v : Value} (h : OwnC w base l v) {F : Nat → Prop} (hF2 : ∀ b, base ≤ b → b < w.heap.size → F b) :
    ∃ A c, v = .slice A l.length c ∧ RowL w F l A l.length ∧ l.length ≤ c ∧ c ≤ maxLen := by
  obtain ⟨A, c, hv, hr, hc, hm⟩ := OwnD.row h (by decide) hF2
  rw [List.length_map] at hv hr hc
  exact ⟨A, c, hv, rowL_iff.2 ⟨rfl, hr⟩, hc, hm⟩
/-- append of one class, laid in a block of its own. -/
theorem wpList_ownC1 {ops : Array Oper} {rest : List Oper} {o : Oper} {a : Act} {Q : Exit → Act → World → Prop} {w : World} (hgd : o.guard = none) (s x : Operand)
    (ho : o.op = .call { callee := .builtin .append, args := #[s, x], argTypes := #[22, 22] })
    (base : Nat) (l : List Cls) (c : Cls) (cs : List Value) (v : Value) (hs : a.eval s = v) (hown : OwnC w base l v)
    (g cap : Nat) (hx : a.eval x = .slice (some ⟨g, 0, none⟩) 1 cap) {fr : Nat × Nat} (hg : w.heap[g]? = some (.cells cs.toArray 28 fr)) (hrep : RepC w (fun b => base ≤ b ∧ b < w.heap.size ∧ some b ≠ v.ownBlock) c cs)
    (hnm : l.length + 1 < 4000000) (hbase : base ≤ w.heap.size)
    (h : ∀ v' w', OwnC w' base (l ++ [c]) v' → Below base w w' → wpList Tryz.prog ops Q rest (a.put o.dst v') w') : wpList Tryz.prog ops Q (o :: rest) a w := by
  refine wpList_ownD hgd s x 22 ho tyC base _ [clsD c] [⟨cs, one_val hrep⟩] v hs hown (some ⟨g, 0, none⟩) 1 cap hx ?_ rfl rfl ?_ (by simpa using hnm) hbase (by simpa only [OwnC, List.map_append, List.map_cons, List.map_nil] using h)
  · have := Src.block (sz := 6) (m := 1) (vs := cs) hg (one_val hrep).1
    simpa [cN] using this
  · intro i d y hd hy
    match i, hd, hy with
    | 0, hd, hy =>
      obtain rfl : clsD c = d := by simpa using hd
      obtain rfl : (⟨cs, one_val hrep⟩ : CellsN 6) = y := by simpa using hy
      exact (repC_iff _ _ _ _).1 hrep
/-- append of a whole row of classes that the call owns too. -/
theorem wpList_ownCs {ops : Array Oper} {rest : List Oper} {o : Oper} {a : Act} {Q : Exit → Act → World → Prop} {w : World} (hgd : o.guard = none) (s x : Operand)
    (ho : o.op = .call { callee := .builtin .append, args := #[s, x], argTypes := #[22, 22] })
    (base base2 : Nat) (l l2 : List Cls) (v v2 : Value) (hs : a.eval s = v) (hown : OwnC w base l v) (hx : a.eval x = v2) (hown2 : OwnC w base2 l2 v2) (hleaf : ∀ c ∈ l2, ∀ (F G : Nat → Prop) cs, RepC w F c cs → RepC w G c cs)
    (hnm : l.length + l2.length < 4000000) (hbase : base ≤ w.heap.size)
    (h : ∀ v' w', OwnC w' base (l ++ l2) v' → Below base w w' → wpList Tryz.prog ops Q rest (a.put o.dst v') w') : wpList Tryz.prog ops Q (o :: rest) a w := by
  obtain ⟨ys, g1, g2, g3⟩ := hown2
  obtain ⟨A, c, rfl, hrow, hc, hm⟩ := g1.row cN_len (by decide)
  have hsrc := hrow.src cN_len (by decide) ys.length (Nat.le_refl _)
  rw [List.take_length] at hsrc
  refine wpList_ownD hgd s x 22 ho tyC base _ (l2.map clsD) ys v hs hown A ys.length c hx hsrc (by rw [g2]) g2 ?_ (by rw [List.length_map] at g2 ⊢; omega) hbase (by simpa only [OwnC, List.map_append, List.map_cons, List.map_nil] using h)
  intro i d y hd hy
  obtain ⟨c', hc', rfl⟩ : ∃ c', l2[i]? = some c' ∧ clsD c' = d := by
    rw [List.getElem?_map] at hd
    cases hh : l2[i]? with
    | none => rw [hh] at hd; cases hd
    | some c' => rw [hh] at hd; exact ⟨c', rfl, by simpa using hd⟩
  exact (repC_iff _ _ _ _).1 (hleaf c' (List.mem_of_getElem? hc') _ _ _ ((repC_iff _ _ _ _).2 (g3 i _ y hd hy)))
end Go.Proofs.YtfildbkkmnfekaaGreatDoor
