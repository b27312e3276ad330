/- Classes of names as trees, and what it is for a value in memory to be such a tree; the reading is kept by whatever leaves its blocks alone. -/
import Derived.Test.YtfildbkkmnfekaaGreatDoorProg
import Derived.WalkKit
import Derived.Lib.Strings
import Derived.Lib.Hide
import Derived.Deep.Draws
namespace Go.RowKit
/-- One step behind another: from the first world on. -/
theorem Below.seq {a b c : World} (h : Below a.heap.size a b) (k : Below b.heap.size b c) : Below a.heap.size a c := h.trans (k.mono h.size)
theorem Below.drewN {B : Nat} {a w : World} (h : Below B a w) (n : Nat) : Below B a (w.drewN n) := ⟨h.os, h.tape, h.output, h.size, h.block⟩
theorem Below.behind {w w2 : World} {n : Nat} (h : Below (w.drewN n).heap.size (w.drewN n) w2) : Below w.heap.size w w2 := ⟨h.os, h.tape, h.output, h.size, h.block⟩
theorem Below.drew1 {w w2 : World} (h : Below w.drew.heap.size w.drew w2) : Below w.heap.size w w2 := ⟨h.os, h.tape, h.output, h.size, h.block⟩
/-- What was there is as it was, but for the blocks of M. -/
structure Kept (M : Nat → Prop) (w w' : World) : Prop where
  os : w'.os = w.os
  tape : w'.tape = w.tape
  output : w'.output = w.output
  size : w.heap.size ≤ w'.heap.size
  block : ∀ k, k < w.heap.size → ¬ M k → w'.heap[k]? = w.heap[k]?
section
variable {M : Nat → Prop} {a b c w : World}
theorem Kept.refl (M : Nat → Prop) (w : World) : Kept M w w := ⟨rfl, rfl, rfl, Nat.le_refl _, fun _ _ _ => rfl⟩
theorem Kept.trans (h : Kept M a b) (k : Kept M b c) : Kept M a c :=
  ⟨k.os.trans h.os, k.tape.trans h.tape, k.output.trans h.output, Nat.le_trans h.size k.size, fun i hi hm => (k.block i (Nat.lt_of_lt_of_le hi h.size) hm).trans (h.block i hi hm)⟩
theorem Kept.of_below (h : Below a.heap.size a b) : Kept M a b := ⟨h.os, h.tape, h.output, h.size, fun i hi _ => h.block i hi⟩
theorem Kept.below (h : Kept M a b) {B : Nat} (hB : B ≤ a.heap.size) (hM : ∀ k, k < B → ¬ M k) : Below B a b := ⟨h.os, h.tape, h.output, h.size, fun i hi => h.block i (by omega) (hM i hi)⟩
theorem Kept.drew (h : Kept M a w) : Kept M a w.drew := ⟨h.os, h.tape, h.output, h.size, h.block⟩
theorem Kept.drewN (h : Kept M a w) (n : Nat) : Kept M a (w.drewN n) := ⟨h.os, h.tape, h.output, h.size, h.block⟩
theorem Kept.alloc (h : Kept M a w) (o : Obj) : Kept M a (w.alloc o) :=
  ⟨h.os, h.tape, h.output, by simp; exact Nat.le_succ_of_le h.size, fun i hi hm => (Below.heap_alloc w o i (Nat.lt_of_lt_of_le hi h.size)).trans (h.block i hi hm)⟩
theorem Kept.setCell (h : Kept M a w) {p : Addr} (hp : M p.block ∨ a.heap.size ≤ p.block) (u : Value) : Kept M a (w.setCell p u) :=
  ⟨h.os, h.tape, h.output, by simpa [World.setCell] using h.size, fun i hi hm => (Below.heap_setCell w p u i (by
    rintro rfl
    rcases hp with hp | hp
    · exact hm hp
    · omega)).trans (h.block i hi hm)⟩
theorem Kept.cell (h : Kept M a b) {p : Addr} (hp : p.block < a.heap.size) (hm : ¬ M p.block) : b.cell? p = a.cell? p := World.cell?_of_block (w := a) (h.block p.block hp hm)
theorem Kept.frozen (h : Kept M a b) {p : Addr} (hp : p.block < a.heap.size) (hm : ¬ M p.block) : b.frozen? p = a.frozen? p := World.frozen?_of_block (w := a) (h.block p.block hp hm)
end
end Go.RowKit
namespace Go.Proofs.YtfildbkkmnfekaaGreatDoor
open Go Go.RowKit

inductive Cls where
  | mk (k : Int) (ns nl s : ByteArray) (ex ar : List Cls)

/-- The cells vs lie from place off on in block b. -/
def CellsAt (w : World) (b off : Nat) (vs : List Value) : Prop := ∀ j v, vs[j]? = some v → w.cell? ⟨b, off + j, none⟩ = some v

mutual
def RepC (w : World) (F : Nat → Prop) : Cls → List Value → Prop
  | .mk k ns nl s ex ar, cs => ∃ A c A' c', cs = [.int .i64 k, .string ns, .string nl, .string s, .slice A ex.length c, .slice A' ar.length c'] ∧
      ex.length < 2000000000000 ∧ ar.length < 2000000000000 ∧
      (0 < ex.length → ∃ b off, A = some ⟨b, off, none⟩ ∧ F b ∧ RepR w F ex b off) ∧ (0 < ar.length → ∃ b off, A' = some ⟨b, off, none⟩ ∧ F b ∧ RepR w F ar b off)
def RepR (w : World) (F : Nat → Prop) : List Cls → Nat → Nat → Prop
  | [], _, _ => True
  | c :: l, b, off => (∃ cs, CellsAt w b off cs ∧ RepC w F c cs) ∧ RepR w F l b (off + 6)
end

/-- A slice of n classes at the address A: the list l. -/
def RowL (w : World) (F : Nat → Prop) (l : List Cls) (A : Option Addr) (n : Nat) : Prop := n = l.length ∧ (0 < l.length → ∃ b off, A = some ⟨b, off, none⟩ ∧ F b ∧ RepR w F l b off)
theorem RowL.len {w : World} {F : Nat → Prop} {l : List Cls} {A : Option Addr} {n : Nat} (h : RowL w F l A n) : n = l.length := h.1

theorem RepC.form' {w : World} {F : Nat → Prop} {k : Int} {ns nl s : ByteArray} {ex ar : List Cls} {cs : List Value} (h : RepC w F (.mk k ns nl s ex ar) cs) :
    ∃ A c A' c', cs = [.int .i64 k, .string ns, .string nl, .string s, .slice A ex.length c, .slice A' ar.length c'] ∧
      ex.length < 2000000000000 ∧ ar.length < 2000000000000 ∧
      (0 < ex.length → ∃ b off, A = some ⟨b, off, none⟩ ∧ F b ∧ RepR w F ex b off) ∧ (0 < ar.length → ∃ b off, A' = some ⟨b, off, none⟩ ∧ F b ∧ RepR w F ar b off) := by
  rw [RepC] at h; exact h
theorem RepC.form {w : World} {F : Nat → Prop} {k : Int} {ns nl s : ByteArray} {ex ar : List Cls} {cs : List Value} (h : RepC w F (.mk k ns nl s ex ar) cs) :
    ∃ A n c A' n' c', cs = [.int .i64 k, .string ns, .string nl, .string s, .slice A n c, .slice A' n' c'] ∧
      n < 2000000000000 ∧ n' < 2000000000000 ∧ RowL w F ex A n ∧ RowL w F ar A' n' := by
  obtain ⟨A, c, A', c', e, h1, h2, h3, h4⟩ := h.form'
  exact ⟨A, _, c, A', _, c', e, h1, h2, ⟨rfl, h3⟩, ⟨rfl, h4⟩⟩

theorem RepC.shape {w : World} {F : Nat → Prop} {ch : Cls} {v0 v1 v2 v3 v4 v5 : Value} (h : RepC w F ch [v0, v1, v2, v3, v4, v5]) :
    ∃ k ns nl s A n c A' n' c', v0 = .int .i64 k ∧ v1 = .string ns ∧ v2 = .string nl ∧ v3 = .string s ∧ v4 = .slice A n c ∧ v5 = .slice A' n' c' := by
  obtain ⟨k, ns, nl, s, ex, ar⟩ := ch
  obtain ⟨A, n, c, A', n', c', e, _⟩ := h.form
  simp only [List.cons.injEq, and_true] at e
  obtain ⟨e0, e1, e2, e3, e4, e5⟩ := e
  exact ⟨k, ns, nl, s, A, n, c, A', n', c', e0, e1, e2, e3, e4, e5⟩

theorem CellsAt.keep {w w' : World} {b off : Nat} {vs : List Value} (h : CellsAt w b off vs) (hb : w'.heap[b]? = w.heap[b]?) : CellsAt w' b off vs :=
  fun j v hv => (World.cell?_of_block (w := w) (a := ⟨b, off + j, none⟩) hb).trans (h j v hv)

theorem CellsAt.lt {w : World} {b off : Nat} {v : Value} {vs : List Value} (h : CellsAt w b off (v :: vs)) : b < w.heap.size :=
  block_lt_of_cell (h 0 v rfl)

mutual
theorem RepC.keep {w w' : World} {F F' : Nat → Prop} (hF : ∀ b, F b → b < w.heap.size → F' b ∧ w'.heap[b]? = w.heap[b]?) : ∀ (c : Cls) (cs : List Value), RepC w F c cs → RepC w' F' c cs
  | .mk k ns nl s ex ar, cs, h => by
    obtain ⟨A, c, A', c', e, hl, hl', h1, h2⟩ := h.form'
    rw [RepC]
    refine ⟨A, c, A', c', e, hl, hl', fun hp => ?_, fun hp => ?_⟩
    · obtain ⟨b, off, ha, hb, hr⟩ := h1 hp
      have hlt : b < w.heap.size := RepR.lt' ex b off (by intro e; rw [e] at hp; simp at hp) hr
      exact ⟨b, off, ha, (hF b hb hlt).1, RepR.keep hF ex b off (hF b hb hlt).2 hr⟩
    · obtain ⟨b, off, ha, hb, hr⟩ := h2 hp
      have hlt : b < w.heap.size := RepR.lt' ar b off (by intro e; rw [e] at hp; simp at hp) hr
      exact ⟨b, off, ha, (hF b hb hlt).1, RepR.keep hF ar b off (hF b hb hlt).2 hr⟩
theorem RepR.keep {w w' : World} {F F' : Nat → Prop} (hF : ∀ b, F b → b < w.heap.size → F' b ∧ w'.heap[b]? = w.heap[b]?) : ∀ (l : List Cls) (b off : Nat), w'.heap[b]? = w.heap[b]? → RepR w F l b off → RepR w' F' l b off
  | [], _, _, _, _ => by rw [RepR]; trivial
  | c :: l, b, off, hb, h => by
    rw [RepR] at h ⊢
    obtain ⟨⟨cs, hc, hr⟩, hl⟩ := h
    exact ⟨⟨cs, hc.keep hb, RepC.keep hF c cs hr⟩, RepR.keep hF l b (off + 6) hb hl⟩
theorem RepR.lt' {w : World} {F : Nat → Prop} : ∀ (l : List Cls) (b off : Nat), l ≠ [] → RepR w F l b off → b < w.heap.size
  | [], _, _, hne, _ => absurd rfl hne
  | c :: l, b, off, _, h => by
    rw [RepR] at h
    obtain ⟨⟨cs, hc, hr⟩, hl⟩ := h
    cases c with
    | mk k ns nl s ex ar =>
      obtain ⟨A, c, A', c', e, _⟩ := hr.form'
      rw [e] at hc
      exact hc.lt
end

/-- Below B the world is as it was, and the tree lies below B: it is read as before. -/
theorem RepC.below {w w' : World} {B : Nat} {c : Cls} {cs : List Value} (h : RepC w (· < B) c cs) (hb : Below B w w') : RepC w' (· < B) c cs :=
  RepC.keep (fun b hb' _ => ⟨hb', hb.block b hb'⟩) c cs h
theorem RepC.wide {w : World} {F F' : Nat → Prop} {c : Cls} {cs : List Value} (h : RepC w F c cs) (hF : ∀ b, F b → b < w.heap.size → F' b) : RepC w F' c cs :=
  RepC.keep (fun b hb hl => ⟨hF b hb hl, rfl⟩) c cs h
theorem RepR.below {w w' : World} {B : Nat} {l : List Cls} {b off : Nat} (h : RepR w (· < B) l b off) (hbB : b < B) (hb : Below B w w') : RepR w' (· < B) l b off :=
  RepR.keep (fun b hb' _ => ⟨hb', hb.block b hb'⟩) l b off (hb.block b hbB) h

theorem RowL.below {w w' : World} {B : Nat} {l : List Cls} {A : Option Addr} {n : Nat} (h : RowL w (· < B) l A n) (hb : Below B w w') : RowL w' (· < B) l A n :=
  ⟨h.1, fun hp => let ⟨b, off, hA, hB, hr⟩ := h.2 hp; ⟨b, off, hA, hB, hr.below hB hb⟩⟩

/-- The element i of a row of classes. -/
theorem RepR.get {w : World} {F : Nat → Prop} : ∀ {l : List Cls} {b off : Nat} (_ : RepR w F l b off) (i : Nat) (c : Cls), l[i]? = some c → ∃ cs, CellsAt w b (off + i * 6) cs ∧ RepC w F c cs
  | [], _, _, _, i, c, h => by simp at h
  | c :: l, b, off, h, 0, c', hi => by
    rw [RepR] at h
    obtain rfl : c = c' := by simpa using hi
    simpa using h.1
  | c :: l, b, off, h, i + 1, c', hi => by
    rw [RepR] at h
    have := h.2.get i c' (by simpa using hi)
    rwa [show off + 6 + i * 6 = off + (i + 1) * 6 by omega] at this

theorem ret_int {k : IntKind} {a b : Int} (h : a = b) : Ending.returned (.int k a) = .returned (.int k b) := by rw [h]
theorem ret_nat {k : IntKind} {a b : Nat} (h : a = b) : Ending.returned (.int k (a : Int)) = .returned (.int k (b : Int)) := by rw [h]
theorem ret_bool {a b : Bool} (h : a = b) : Ending.returned (.bool a) = .returned (.bool b) := by rw [h]
theorem hp_lt {w : World} {g : Nat} {o : Obj} (h : w.heap[g]? = some o) : g < w.heap.size := (Array.getElem?_eq_some_iff.1 h).1
theorem hp_far {w : World} {g p i : Nat} {v : Value} {o : Option Obj} (hne : g ≠ p) (h : w.heap[g]? = o) : (w.setCell ⟨p, i, none⟩ v).heap[g]? = o := (Below.heap_setCell w ⟨p, i, none⟩ v g hne).trans h
theorem hp_alloc {w : World} {g : Nat} {o o' : Obj} (h : w.heap[g]? = some o) : (w.alloc o').heap[g]? = some o := (Below.heap_alloc w o' g (hp_lt h)).trans h
theorem hp_set {w : World} {g i : Nat} {v : Value} {cs : Array Value} {t : TypeId} (h : w.heap[g]? = some (.cells cs t)) : (w.setCell ⟨g, i, none⟩ v).heap[g]? = some (.cells (cs.setIfInBounds i v) t) := heap_setCell_same w g i cs t v h
theorem hp_set1 {w : World} {g : Nat} {v u : Value} {t : TypeId} (h : w.heap[g]? = some (.cells #[u] t)) : (w.setCell ⟨g, 0, none⟩ v).heap[g]? = some (.cells #[v] t) := by rw [hp_set h]; rfl
theorem hp_set6_1 {w : World} {g : Nat} {v u0 u1 u2 u3 u4 u5 : Value} {t : TypeId} (h : w.heap[g]? = some (.cells #[u0, u1, u2, u3, u4, u5] t)) : (w.setCell ⟨g, 1, none⟩ v).heap[g]? = some (.cells #[u0, v, u2, u3, u4, u5] t) := by rw [hp_set h]; rfl
theorem hp_set6_2 {w : World} {g : Nat} {v u0 u1 u2 u3 u4 u5 : Value} {t : TypeId} (h : w.heap[g]? = some (.cells #[u0, u1, u2, u3, u4, u5] t)) : (w.setCell ⟨g, 2, none⟩ v).heap[g]? = some (.cells #[u0, u1, v, u3, u4, u5] t) := by rw [hp_set h]; rfl
theorem hp_set6_3 {w : World} {g : Nat} {v u0 u1 u2 u3 u4 u5 : Value} {t : TypeId} (h : w.heap[g]? = some (.cells #[u0, u1, u2, u3, u4, u5] t)) : (w.setCell ⟨g, 3, none⟩ v).heap[g]? = some (.cells #[u0, u1, u2, v, u4, u5] t) := by rw [hp_set h]; rfl
theorem hp_kept {M : Nat → Prop} {w w' : World} {g : Nat} {o : Obj} (h : w.heap[g]? = some o) (hk : Kept M w w') (hm : ¬ M g) : w'.heap[g]? = some o := (hk.block g (hp_lt h) hm).trans h
theorem hp_below {w w' : World} {g : Nat} {o : Obj} (h : w.heap[g]? = some o) (hk : Below w.heap.size w w') : w'.heap[g]? = some o := (hk.block g (hp_lt h)).trans h
theorem kind3 (k : Int) : (k == 1) = true ∨ ((k == 1) = false ∧ (k == 2) = true) ∨ ((k == 1) = false ∧ (k == 2) = false ∧ (k == 3) = true) ∨ ((k == 1) = false ∧ (k == 2) = false ∧ (k == 3) = false) := by
  cases (k == 1) <;> cases (k == 2) <;> cases (k == 3) <;> simp
theorem alloc_facts (w : World) (o : Obj) : ∃ w1, w.alloc o = w1 ∧ w1.heap[w.heap.size]? = some o ∧ w.heap.size < w1.heap.size ∧ Below w.heap.size w w1 :=
  ⟨_, rfl, heap_alloc_new w o, by simp, (Below.refl _ _).alloc (Nat.le_refl _) _⟩

theorem alloc2_facts (w : World) (o o' : Obj) : ∃ w1, (w.alloc o).alloc o' = w1 ∧ w1.heap[w.heap.size]? = some o ∧ w1.heap[w.heap.size + 1]? = some o' ∧ w.heap.size + 1 < w1.heap.size ∧ Below w.heap.size w w1 :=
  ⟨_, rfl, heap_alloc2_old w o o', heap_alloc2_new w o o', by simp, ((Below.refl _ _).alloc (Nat.le_refl _) _).alloc (by simp) _⟩
theorem blk6 {w : World} {g : Nat} {t : TypeId} {fr : Nat × Nat} {v0 v1 v2 v3 v4 v5 : Value} (h : w.heap[g]? = some (.cells #[v0, v1, v2, v3, v4, v5] t fr)) :
    w.cell? ⟨g, 0, none⟩ = some v0 ∧ w.cell? ⟨g, 1, none⟩ = some v1 ∧ w.cell? ⟨g, 2, none⟩ = some v2 ∧ w.cell? ⟨g, 3, none⟩ = some v3 ∧ w.cell? ⟨g, 4, none⟩ = some v4 ∧ w.cell? ⟨g, 5, none⟩ = some v5 := by
  refine ⟨?_, ?_, ?_, ?_, ?_, ?_⟩ <;> rw [cell_of_row w g _ _ _ _ h] <;> rfl
theorem blk2 {w : World} {g : Nat} {t : TypeId} {fr : Nat × Nat} {v0 v1 : Value} (h : w.heap[g]? = some (.cells #[v0, v1] t fr)) :
    w.cell? ⟨g, 0, none⟩ = some v0 ∧ w.cell? ⟨g, 1, none⟩ = some v1 := by
  refine ⟨?_, ?_⟩ <;> rw [cell_of_row w g _ _ _ _ h] <;> rfl
theorem blk1 {w : World} {g : Nat} {t : TypeId} {fr : Nat × Nat} {v0 : Value} (h : w.heap[g]? = some (.cells #[v0] t fr)) :
    w.cell? ⟨g, 0, none⟩ = some v0 := by
  rw [cell_of_row w g _ _ _ _ h]; rfl
theorem CellsAt.six {w : World} {b off : Nat} {v0 v1 v2 v3 v4 v5 : Value} (h : CellsAt w b off [v0, v1, v2, v3, v4, v5]) :
    w.cell? ⟨b, off, none⟩ = some v0 ∧ w.cell? ⟨b, off + 1, none⟩ = some v1 ∧ w.cell? ⟨b, off + 2, none⟩ = some v2 ∧ w.cell? ⟨b, off + 3, none⟩ = some v3 ∧ w.cell? ⟨b, off + 4, none⟩ = some v4 ∧ w.cell? ⟨b, off + 5, none⟩ = some v5 :=
  ⟨h 0 _ rfl, h 1 _ rfl, h 2 _ rfl, h 3 _ rfl, h 4 _ rfl, h 5 _ rfl⟩

/-- What a round reads of element i: where it lies, its six cells, and that they are the class there. -/
theorem RowL.elem {w : World} {B : Nat} {l : List Cls} {A : Option Addr} {n : Nat} (h : RowL w (· < B) l A n) {i : Nat} (hi : i < n) :
    ∃ b off ch v0 v1 v2 v3 v4 v5, A = some ⟨b, off, none⟩ ∧ l[i]? = some ch ∧ RepC w (· < B) ch [v0, v1, v2, v3, v4, v5] ∧ CellsAt w b (off + i * 6) [v0, v1, v2, v3, v4, v5] := by
  obtain ⟨hn, h⟩ := h
  obtain ⟨b, off, hA, _, hr⟩ := h (by omega)
  obtain ⟨⟨k, ns, nl, s, ex, ar⟩, hc⟩ : ∃ ch, l[i]? = some ch := ⟨_, List.getElem?_eq_getElem (by omega)⟩
  obtain ⟨cs, hcs, hrc⟩ := hr.get i _ hc
  obtain ⟨A3, n3, c3, A4, n4, c4, rfl, _⟩ := hrc.form
  exact ⟨b, off, _, _, _, _, _, _, _, hA, hc, hrc, hcs⟩

/-- The address of an element of a slice. -/
theorem run_index_at {P : Program} (T E sz : Nat) (hT : P.underlying T = some (.slice E)) (hE : ∀ w, (sizeOf E).run P w = .ok sz w) {A : Option Addr} {b off : Nat} (hA : A = some ⟨b, off, none⟩) (n c i : Nat) (hi : i < n) (W : World) :
    (Instr.indexAt T (.slice A n c) (.int .i64 (i : Int))).run P W = .ok (.pointer (some ⟨b, off + i * sz, none⟩)) W := by
  subst hA
  have h0 : (0 : Int) ≤ (i : Int) ∧ (i : Int) < (n : Int) := by omega
  simp [Instr.indexAt, run_underlying hT, asIntOf, h0, hE, Addr.add, hi]

/-- A tree that is read lies in blocks that are there. -/
theorem RepC.here {w : World} {F : Nat → Prop} {c : Cls} {cs : List Value} (h : RepC w F c cs) : RepC w (· < w.heap.size) c cs := h.wide (fun _ _ h => h)
theorem RowL.here {w : World} {F : Nat → Prop} {l : List Cls} {A : Option Addr} {n : Nat} (h : RowL w F l A n) : RowL w (· < w.heap.size) l A n := ⟨h.1, fun hp => by
  obtain ⟨b, off, hA, hb, hr⟩ := h.2 hp
  have hlt := RepR.lt' l b off (by intro e; rw [e] at hp; simp at hp) hr
  exact ⟨b, off, hA, hlt, RepR.keep (fun b _ hl => ⟨hl, rfl⟩) l b off rfl hr⟩⟩
theorem RepC.drew {w : World} {F : Nat → Prop} {c : Cls} {cs : List Value} (h : RepC w F c cs) : RepC w.drew F c cs := RepC.keep (w := w) (w' := w.drew) (fun _ hb _ => ⟨hb, rfl⟩) c cs h
/-- What a round reads of element i, all that the walk wants of it. -/
theorem RowL.roundB {w wr : World} {B : Nat} {l : List Cls} {A : Option Addr} {n : Nat} (h : RowL w (· < B) l A n) (hb : Below B w wr) {i : Nat} (hi : i < n) (c : Nat) :
    ∃ b off ch v0 v1 v2 v3 v4 v5, Hid (l[i]? = some ch) ∧ RepC wr (· < B) ch [v0, v1, v2, v3, v4, v5] ∧
      wr.cell? ⟨b, off + i * 6, none⟩ = some v0 ∧ wr.cell? ⟨b, off + i * 6 + 1, none⟩ = some v1 ∧ wr.cell? ⟨b, off + i * 6 + 2, none⟩ = some v2 ∧
      wr.cell? ⟨b, off + i * 6 + 3, none⟩ = some v3 ∧ wr.cell? ⟨b, off + i * 6 + 4, none⟩ = some v4 ∧ wr.cell? ⟨b, off + i * 6 + 5, none⟩ = some v5 ∧
      ∀ W, (Instr.indexAt 22 (.slice A n c) (.int .i64 (i : Int))).run Tryz.prog W = .ok (.pointer (some ⟨b, off + i * 6, none⟩)) W := by
  obtain ⟨b, off, ch, v0, v1, v2, v3, v4, v5, hA, hc, hrc, hcs⟩ := (h.below hb).elem hi
  obtain ⟨p0, p1, p2, p3, p4, p5⟩ := hcs.six
  exact ⟨b, off, _, _, _, _, _, _, _, Lib.hid hc, hrc, p0, p1, p2, p3, p4, p5, run_index_at (P := Tryz.prog) 22 28 6 Tryz.underlying22 (fun w => by kernel_rfl) hA n c i hi⟩
theorem RowL.round {w wr : World} {l : List Cls} {A : Option Addr} {n : Nat} (h : RowL w (· < w.heap.size) l A n) (hb : Below w.heap.size w wr) {i : Nat} (hi : i < n) (c : Nat) :
    ∃ b off ch v0 v1 v2 v3 v4 v5, Hid (l[i]? = some ch) ∧ RepC wr (· < w.heap.size) ch [v0, v1, v2, v3, v4, v5] ∧
      wr.cell? ⟨b, off + i * 6, none⟩ = some v0 ∧ wr.cell? ⟨b, off + i * 6 + 1, none⟩ = some v1 ∧ wr.cell? ⟨b, off + i * 6 + 2, none⟩ = some v2 ∧
      wr.cell? ⟨b, off + i * 6 + 3, none⟩ = some v3 ∧ wr.cell? ⟨b, off + i * 6 + 4, none⟩ = some v4 ∧ wr.cell? ⟨b, off + i * 6 + 5, none⟩ = some v5 ∧
      ∀ W, (Instr.indexAt 22 (.slice A n c) (.int .i64 (i : Int))).run Tryz.prog W = .ok (.pointer (some ⟨b, off + i * 6, none⟩)) W := h.roundB hb hi c
/-- The first element, at the constant index 0. -/
theorem RowL.first {w wr : World} {e : Cls} {l : List Cls} {A : Option Addr} {n : Nat} (h : RowL w (· < w.heap.size) (e :: l) A n) (hb : Below w.heap.size w wr) (c : Nat) :
    ∃ b off v0 v1 v2 v3 v4 v5, RepC wr (· < w.heap.size) e [v0, v1, v2, v3, v4, v5] ∧
      wr.cell? ⟨b, off, none⟩ = some v0 ∧ wr.cell? ⟨b, off + 1, none⟩ = some v1 ∧ wr.cell? ⟨b, off + 2, none⟩ = some v2 ∧
      wr.cell? ⟨b, off + 3, none⟩ = some v3 ∧ wr.cell? ⟨b, off + 4, none⟩ = some v4 ∧ wr.cell? ⟨b, off + 5, none⟩ = some v5 ∧ 0 < n ∧
      ∀ W, (Instr.indexAt 22 (.slice A n c) (.int .i64 0)).run Tryz.prog W = .ok (.pointer (some ⟨b, off, none⟩)) W := by
  have hn := h.len
  rw [List.length_cons] at hn
  obtain ⟨b, off, ch, v0, v1, v2, v3, v4, v5, hc, hr, p0, p1, p2, p3, p4, p5, hi⟩ := h.round hb (i := 0) (by omega) c
  have hc1 : e = ch := by have := hc.out; simpa using this
  subst hc1
  simp only [Nat.zero_mul, Nat.add_zero] at p0 p1 p2 p3 p4 p5 hi
  exact ⟨b, off, v0, v1, v2, v3, v4, v5, hr, p0, p1, p2, p3, p4, p5, by omega, hi⟩

mutual
theorem Cls.ind {P : Cls → Prop} (h : ∀ k ns nl s ex ar, (∀ c ∈ ex, P c) → (∀ c ∈ ar, P c) → P (.mk k ns nl s ex ar)) : ∀ c, P c
  | .mk k ns nl s ex ar => h k ns nl s ex ar (Cls.ind_list h ex) (Cls.ind_list h ar)
theorem Cls.ind_list {P : Cls → Prop} (h : ∀ k ns nl s ex ar, (∀ c ∈ ex, P c) → (∀ c ∈ ar, P c) → P (.mk k ns nl s ex ar)) : ∀ l : List Cls, ∀ c ∈ l, P c
  | [] => fun _ hc => by cases hc
  | c :: l => fun x hx => by
    have h1 := Cls.ind h c
    have h2 := Cls.ind_list h l
    rcases List.mem_cons.1 hx with e | hx
    · exact e ▸ h1
    · exact h2 x hx
end
theorem mem_of_hid {l : List Cls} {i : Nat} {c : Cls} (h : Hid (l[i]? = some c)) : c ∈ l := List.mem_of_getElem? h.out

theorem toList_eq {x y : ByteArray} (h : x.toList = y.toList) : x = y := by
  rw [Lib.toList_data, Lib.toList_data] at h
  cases x; cases y
  simpa [Array.toList_inj] using h
theorem isEmpty_size (b : ByteArray) : b.toList.isEmpty = decide (b.size = 0) := by
  rw [Lib.toList_data, Bool.eq_iff_iff]
  cases b with
  | mk d => simp [ByteArray.size, Array.isEmpty_iff, Array.size_eq_zero_iff]
theorem isEmpty_false {b : ByteArray} (h : b.toList.isEmpty = false) : 1 ≤ b.size := by
  rw [isEmpty_size, decide_eq_false_iff_not] at h; omega
theorem isEmpty_true {b : ByteArray} (h : b.toList.isEmpty = true) : b.size = 0 := by
  rw [isEmpty_size, decide_eq_true_eq] at h; exact h
/-- Are two strings the same bytes? -/
def eqS (x y : ByteArray) : Bool := x.toList == y.toList
theorem eqS_iff {x y : ByteArray} : eqS x y = true ↔ x = y := by
  unfold eqS
  exact ⟨fun h => toList_eq (by simpa using h), fun h => by rw [h]; simp⟩
theorem eqS_def (x y : ByteArray) : (x.toList == y.toList) = eqS x y := rfl
theorem eqS_true {x y : ByteArray} (h : x.toList = y.toList) : eqS x y = true := eqS_iff.2 (toList_eq h)
theorem eqS_false {x y : ByteArray} (h : ¬ x.toList = y.toList) : eqS x y = false := by unfold eqS; simpa using h
/-- '==' on names, as one Bool. -/
theorem run_eql_name (x y u v : ByteArray) (W : World) : (binOp .eql 24 (.agg #[.string x, .string y]) (.agg #[.string u, .string v])).run Tryz.prog W = .ok (.bool (eqS x u && eqS y v)) W := by
  rw [run_eql_struct]
  by_cases h : x.toList = u.toList <;> by_cases h' : y.toList = v.toList
  · rw [eqS_true h, eqS_true h']; simp [go_sem, h, h']
  · rw [eqS_true h, eqS_false h']; simp [go_sem, h, h']
  · rw [eqS_false h]; simp [go_sem, h]
  · rw [eqS_false h]; simp [go_sem, h]
theorem run_neq_name (x y u v : ByteArray) (W : World) : (binOp .neq 24 (.agg #[.string x, .string y]) (.agg #[.string u, .string v])).run Tryz.prog W = .ok (.bool (!(eqS x u && eqS y v))) W := by
  rw [run_neq_struct]
  by_cases h : x.toList = u.toList <;> by_cases h' : y.toList = v.toList
  · rw [eqS_true h, eqS_true h']; simp [go_sem, h, h']
  · rw [eqS_true h, eqS_false h']; simp [go_sem, h, h']
  · rw [eqS_false h]; simp [go_sem, h]
  · rw [eqS_false h]; simp [go_sem, h]
end Go.Proofs.YtfildbkkmnfekaaGreatDoor
