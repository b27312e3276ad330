/- Regions that draw their order, whose operations read and whose callees read or lay blocks of their own: one walk, in the order of the text. -/
import Derived.Test.YtfildbkkmnfekaaGreatDoorRowA
import Derived.WalkKit
import Derived.Deep.QuietTactic
import Derived.Shelf.SlSortCmp.QuietGrown
namespace Go.Proofs.YtfildbkkmnfekaaGreatDoor
open Go Go.RowKit
/-- A world behind w: what was there is as it was. -/
structure Since (w : World) where
  wld : World
  below : Below w.heap.size w wld
instance (w : World) : Inhabited (Since w) := ⟨⟨w, Below.refl _ _⟩⟩
theorem wp_region_since {P : Program} {id : Nat} {Q : Exit → Act → World → Prop} {a : Act} {w : World} {l : List Oper} (hm : P.follows .mixedOrders = true) (hB : Region.lexB .any l.toArray = true)
    (h : wpQuiet P l.toArray (fun w' => ∃ p : Since w, w' = p.wld) (fun a' => ∀ w', (∃ p : Since w, w' = p.wld) → Q .normal a' w') l a) : (Code.region id l.toArray true).wp P Q a w :=
  wp_region_quiet (C := fun w' => ∃ p : Since w, w' = p.wld) hm hB ⟨⟨w.drew, ⟨rfl, rfl, rfl, Nat.le_refl _, fun _ _ => rfl⟩⟩, rfl⟩ (by simpa using h)
theorem since_of {P : Program} {f : FuncId} {args : Array Value} {w : World} {p : Since w} {v : Value}
    (h : Calls P f args p.wld fun e w' => e = .returned v ∧ Below p.wld.heap.size p.wld w') : Calls P f args p.wld fun e w'' => e = .returned v ∧ ∃ q : Since w, w'' = q.wld :=
  h.mono fun _ w' ⟨he, hb⟩ => ⟨he, ⟨w', p.below.seq hb⟩, rfl⟩
theorem Since.cell {w : World} {a : Addr} {v : Value} (h : w.cell? a = some v) (p : Since w) : p.wld.cell? a = some v := (p.below.cell (World.block_lt_of_cell? w a h)).trans h
theorem Since.hp {w : World} {g : Nat} {o : Obj} (h : w.heap[g]? = some o) (p : Since w) : p.wld.heap[g]? = some o := hp_below h p.below
theorem Since.row {α : Type} {w : World} {F : Nat → Prop} {sz : Nat} {cells : α → List Value} {l : List α} {A : Option Addr} {n : Nat} (h : RowV w F sz cells l A n) (hne : ∀ x : α, cells x ≠ []) (p : Since w) : RowV p.wld (· < w.heap.size) sz cells l A n := (h.here hne).below p.below
theorem Since.rep {w : World} {F : Nat → Prop} {c : Cls} {cs : List Value} (h : RepC w F c cs) (p : Since w) : RepC p.wld (· < w.heap.size) c cs := h.here.below p.below
theorem since_below {w w' : World} (h : ∃ p : Since w, w' = p.wld) : Below w.heap.size w w' := by
  obtain ⟨p, rfl⟩ := h; exact p.below
end Go.Proofs.YtfildbkkmnfekaaGreatDoor
