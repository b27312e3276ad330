/- A range over an iterator that keeps memory of its own: the loop's law. -/
import Derived.Test.YtfildbkkmnfekaaGreatDoorG11
import Derived.RangeFuncNested
import Derived.RangeFuncBound
import Derived.RangeFuncCalls
import Derived.RangeFuncLeaves
import Derived.WalkKit
import Derived.OwnWalkIn
import Derived.TacticsInMore
import Derived.LoopNIn
import Derived.LoopIn
namespace Go.Proofs.YtfildbkkmnfekaaGreatDoor
open Go.RowKit

/-- A world in which one block is set is, but for that block, the world. -/
theorem kept_putObj {M : Nat → Prop} (W : World) (l : Nat) (o : Obj) (h : M l) : Kept M W (W.putObj l o) := by
  have g := grownBy_putObj' W l o
  exact ⟨g.os, g.tape, g.output, g.size, fun k hk hm => g.block k hk (fun e => hm (by rw [Option.some.inj e]; exact h))⟩
theorem keptImp {M M' : Nat → Prop} {a b : World} (h : Kept M a b) (hm : ∀ k, M k → M' k) : Kept M' a b := ⟨h.os, h.tape, h.output, h.size, fun k hk hn => h.block k hk (fun e => hn (hm k e))⟩
/-- What an iterator promises: it hands over, one by one, the elements of a list of S, or of Sp and no more once it is told to stop. Its own memory lies between where it began and 'hi'; of what lay before it reads nothing in X. -/
def IterC {α : Type} (P : Program) (g : Nat) (lb : Array Value) (encs : α → Array Value) (X : Nat → Prop) (S Sp Bd : List α → Prop) (w0 : World) : Prop :=
  ∀ (n l : Nat) (J : Nat → List α → World → Prop) (Jx : List α → World → Prop) (W : World), Kept X w0 W → (∀ hi pre A, J hi pre A → Bd pre) →
    (∀ hi pre A B, J hi pre A → W.heap.size ≤ hi → hi ≤ A.heap.size → Kept (fun k => W.heap.size ≤ k ∧ k < hi) A B → J hi pre B) →
    (∀ hi A, J hi [] A → W.heap.size ≤ hi → hi ≤ A.heap.size → J A.heap.size [] A) →
    (∀ m hi pre x A, J hi pre A → Sp (pre ++ [x]) → W.heap.size ≤ hi → hi ≤ A.heap.size → YieldAt Fence.wide m P l (encs x) A fun e B =>
      (e = .returned (.bool true) ∧ J hi (pre ++ [x]) B ∧ Kept (fun k => (k < W.heap.size ∧ X k) ∨ hi ≤ k) A B) ∨ (e = .returned (.bool false) ∧ Jx (pre ++ [x]) B)) →
    J W.heap.size [] W →
    CallsIn Fence.wide n P g (#[.func (.yield l) #[] #[]] ++ lb) W fun e B => (∃ v, e = .returned v) ∧ ((∃ hi xs, S xs ∧ J hi xs B) ∨ (∃ pre, Sp pre ∧ Jx pre B))
/-- How the body of a round may be left. -/
def bodyEnd {α : Type} (lo hi : Nat) (X : Nat → Prop) (I : Nat → List α → World → Prop) (Ix : Code → List α → World → Prop) (xs : List α) (W : World) : Exit → Act → World → Prop
  | .normal, _, W' => Kept (fun k => (k < lo ∧ X k) ∨ hi ≤ k) W W' ∧ I hi xs W'
  | .ret, _, W' => Kept (fun k => (k < lo ∧ X k) ∨ hi ≤ k) W W' ∧ Ix .ret xs W'
  | .exit id, _, W' => Kept (fun k => (k < lo ∧ X k) ∨ hi ≤ k) W W' ∧ Ix (.exit id) xs W'
  | .goto t, _, W' => Kept (fun k => (k < lo ∧ X k) ∨ hi ≤ k) W W' ∧ Ix (.goto t) xs W'
  | .panic _, _, _ => False
  | .outgrown, _, _ => False
/-- for x := range g: the loop's law. -/
theorem wpIn_range {α : Type} {P : Program} {n : Nat} {g : Operand} {ps : Array Tmp} {assign body : Code} {Q : Exit → Act → World → Prop} {a : Act} {w : World}
    {gf : Nat} {lb : Array Value} (hg : a.eval g = .func (.func gf) #[] lb) (eg : ∀ args w, (callFunc gf args).run P w = .ok (.enter gf args) w)
    {encs : α → Array Value} {X : Nat → Prop} {S Sp Bd : List α → Prop} {w0 : World} (hseq : IterC P gf lb encs X S Sp Bd w0) (hw0 : Kept X w0 w) (hX : ¬ X w.heap.size ∧ ¬ X (w.heap.size + 1)) (hps : ∀ x, (encs x).size = ps.size)
    (I : Nat → List α → World → Prop) (Ix : Code → List α → World → Prop) (hBd : ∀ hi pre W, I hi pre W → Bd pre)
    (hI : ∀ hi pre A B, I hi pre A → w.heap.size + 2 ≤ hi → hi ≤ A.heap.size → Kept (fun k => w.heap.size ≤ k ∧ k < hi) A B → I hi pre B)
    (hI0 : ∀ hi A, I hi [] A → w.heap.size + 2 ≤ hi → hi ≤ A.heap.size → I A.heap.size [] A)
    (hIx : ∀ c pre A B, Ix c pre A → Kept (fun k => w.heap.size ≤ k ∧ k < w.heap.size + 2) A B → Ix c pre B)
    (h0 : ∀ W, Below w.heap.size w W → w.heap.size + 2 ≤ W.heap.size → I (w.heap.size + 2) [] W)
    (a₁ : α → World → Act) (wA : α → World → World) (hA : ∀ x W, Below W.heap.size W (wA x W))
    (hassign : ∀ (m l : Nat) (x : α) (W : World) (K : Act → World → Prop), K (a₁ x W) (wA x W) →
      assign.wpIn (Fence.wide.inRound l) m P (Exit.then K (fun _ _ _ => False)) { tmps := (ps.zip (encs x)).foldl (fun t (p, v) => t.setIfInBounds p v) a.tmps, defers := [] } W)
    (hbody : ∀ (m l hi : Nat) (pre : List α) (x : α) (W W2 : World), I hi pre W2 → Sp (pre ++ [x]) → w.heap.size + 2 ≤ hi → hi ≤ W.heap.size → Kept (fun k => k = w.heap.size + 1) (wA x W) W2 →
      body.wpIn (Fence.wide.inRound l) m P (bodyEnd (w.heap.size + 2) hi X I Ix (pre ++ [x]) W2) (a₁ x W) W2)
    (hdone : ∀ (hi : Nat) (xs : List α) (W : World), S xs → I hi xs W → W.heap[w.heap.size]? = some (.deferred (some [])) → Q .normal { a with defers := { target := .collected w.heap.size, args := #[] } :: a.defers } W)
    (hstop : ∀ (c : Code) (pre : List α) (W : World), Sp pre → Ix c pre W → W.heap[w.heap.size]? = some (.deferred (some [])) → c.wpIn Fence.wide n P Q { a with defers := { target := .collected w.heap.size, args := #[] } :: a.defers } W) :
    (Code.rangeFunc g ps assign body).wpIn Fence.wide n P Q a w := by
  refine wpIn_rangeFunc ?_
  intro fn hfn
  obtain ⟨rec, hrec⟩ : ∃ rec : LoopState → Option Code → Loop, rec = fun st pe => { state := st, pending := pe, fn, tmps := a.tmps, params := ps, assign, body, defers := w.heap.size } := ⟨_, rfl⟩
  obtain ⟨W1, hW1⟩ : ∃ W1, (w.alloc (.deferred (some []))).alloc (.loop (rec .ready none)) = W1 := ⟨_, rfl⟩
  have hs1 : W1.heap.size = w.heap.size + 2 := by rw [← hW1]; simp
  have hL1 : W1.heap[w.heap.size + 1]? = some (.loop (rec .ready none)) := by
    rw [← hW1]; have := World.alloc_heap_new (w.alloc (.deferred (some []))) (.loop (rec .ready none)); rwa [World.size_alloc] at this
  have hK1 : W1.heap[w.heap.size]? = some (.deferred (some [])) := by
    rw [← hW1]; exact (Below.heap_alloc _ _ _ (by simp)).trans (World.alloc_heap_new w _)
  have hb1 : Below w.heap.size w W1 := by
    rw [← hW1]; exact ((Below.refl _ w).alloc (Nat.le_refl _) _).alloc (by simp) _
  refine ⟨w.heap.size + 1, [{ target := .collected w.heap.size, args := #[] }], W1, { target := .fn (.func gf) lb, args := #[.func (.yield (w.heap.size + 1)) #[] #[]] }, W1, gf,
    #[.func (.yield (w.heap.size + 1)) #[] #[]] ++ lb, W1, ?_, ?_, fun _ _ => trivial, ?_, fun h => by simp [Fence.wide] at h, ?_⟩
  · rw [← hW1, hrec]; exact run_enterLoop_outer _ _ _ _ _
  · simp only [resolve, hg]
    simp [go_sem]
  · simp [invoke, go_sem, eg]
  · refine ((callsIn_wide (n := n)).1 (hseq n (w.heap.size + 1)
      (fun hi pre W => I hi pre W ∧ w.heap.size + 2 ≤ hi ∧ hi ≤ W.heap.size ∧ W.heap[w.heap.size + 1]? = some (.loop (rec .ready none)) ∧ W.heap[w.heap.size]? = some (.deferred (some [])))
      (fun pre W => ∃ c, Ix c pre W ∧ W.heap[w.heap.size + 1]? = some (.loop (rec .done (some c))) ∧ W.heap[w.heap.size]? = some (.deferred (some [])))
      W1 (hw0.trans (Kept.of_below hb1)) (fun hi pre A h => hBd hi pre A h.1) ?s1 ?s0 ?sy ⟨hs1 ▸ h0 W1 hb1 (by omega), by omega, by omega, hL1, hK1⟩) |> fun h => (callsIn_wide (n := n - 1)).2 h).mono ?sr
    case s1 =>
      rintro hi pre A B ⟨h1, h2, h3, h4, h5⟩ hlo hhi hk
      refine ⟨hI hi pre A B h1 h2 h3 (keptImp hk fun k hk => ⟨by omega, hk.2⟩), h2, Nat.le_trans h3 hk.size, ?_, ?_⟩
      · exact (hk.block _ (hp_lt h4) (by omega)).trans h4
      · exact (hk.block _ (hp_lt h5) (by omega)).trans h5
    case s0 =>
      rintro hi A ⟨h1, h2, h3, h4, h5⟩ _ _
      exact ⟨hI0 hi A h1 h2 h3, by omega, Nat.le_refl _, h4, h5⟩
    case sy =>
      rintro m hi pre x W ⟨hi1, hlo, hhi, hl, hk⟩ hlen - -
      have hlt := hp_lt hl
      have hy := run_yield (P := P) (args := encs x) hl (by rw [hrec]; exact hps x)
      rw [hrec] at hy
      have hbA := hA x W
      have hlA : (wA x W).heap[w.heap.size + 1]? = some (.loop (rec .ready none)) := hp_below hl hbA
      have hkA : (wA x W).heap[w.heap.size]? = some (.deferred (some [])) := hp_below hk hbA
      refine ⟨fn, _, assign, body, hy, roundIn_of_wpIn hfn (hassign _ _ x W _ ⟨_, run_beginRound hlA (by rw [hrec]), ?_⟩)⟩
      have hk2 : Kept (fun k => k = w.heap.size + 1) (wA x W) ((wA x W).putObj (w.heap.size + 1) (.loop { rec .ready none with state := .busy })) := kept_putObj _ _ _ rfl
      have hl2 : ((wA x W).putObj (w.heap.size + 1) (.loop { rec .ready none with state := .busy })).heap[w.heap.size + 1]? = some (.loop { rec .ready none with state := .busy }) := World.putObj_heap_same (hp_lt hlA)
      have hd2 : ((wA x W).putObj (w.heap.size + 1) (.loop { rec .ready none with state := .busy })).heap[w.heap.size]? = some (.deferred (some [])) := (World.putObj_heap_other (by omega)).trans hkA
      have hsz2 : hi ≤ ((wA x W).putObj (w.heap.size + 1) (.loop { rec .ready none with state := .busy })).heap.size := Nat.le_trans (Nat.le_trans hhi hbA.size) hk2.size
      obtain ⟨W2, hW2⟩ : ∃ W2, (wA x W).putObj (w.heap.size + 1) (.loop { rec .ready none with state := .busy }) = W2 := ⟨_, rfl⟩
      rw [hW2] at hk2 hl2 hd2 hsz2 ⊢
      have hi2 : I hi pre W2 := hI hi pre (wA x W) W2 (hI hi pre W (wA x W) hi1 hlo hhi ((Kept.of_below hbA (M := fun k => w.heap.size ≤ k ∧ k < hi)))) hlo (Nat.le_trans hhi hbA.size) (keptImp hk2 fun k e => by rw [e]; omega)
      refine wpIn_mono (hbody _ _ hi pre x W W2 hi2 hlen hlo hhi hk2) ?_
      have fin : ∀ (jump : Option Code) (W3 : World), Kept (fun k => (k < w.heap.size + 2 ∧ X k) ∨ hi ≤ k) W2 W3 →
          (Instr.endRound (w.heap.size + 1) jump).run P W3 = .ok (.bool jump.isNone) (W3.putObj (w.heap.size + 1) (.loop (rec (if jump.isNone then .ready else .done) jump))) ∧
          (W3.putObj (w.heap.size + 1) (.loop (rec (if jump.isNone then .ready else .done) jump))).heap[w.heap.size + 1]? = some (.loop (rec (if jump.isNone then .ready else .done) jump)) ∧
          (W3.putObj (w.heap.size + 1) (.loop (rec (if jump.isNone then .ready else .done) jump))).heap[w.heap.size]? = some (.deferred (some [])) ∧ w.heap.size + 1 < W3.heap.size := fun jump W3 hk3 => by
        have hl3 : W3.heap[w.heap.size + 1]? = some (.loop { rec .ready none with state := .busy }) := (hk3.block _ (hp_lt hl2) (by rintro (⟨_, h⟩ | h); exact hX.2 h; omega)).trans hl2
        have hd3 : W3.heap[w.heap.size]? = some (.deferred (some [])) := (hk3.block _ (hp_lt hd2) (by rintro (⟨_, h⟩ | h); exact hX.1 h; omega)).trans hd2
        have := run_endRound (P := P) jump hl3
        rw [hrec] at this ⊢
        exact ⟨this, World.putObj_heap_same (hp_lt hl3), (World.putObj_heap_other (by omega)).trans hd3, hp_lt hl3⟩
      rintro e a3 W3 hp
      cases e with
      | normal =>
        obtain ⟨hk3, hi3⟩ := hp
        obtain ⟨hr, hl4, hk4, hlt3⟩ := fin none W3 hk3
        refine ⟨_, _, hr, .inl ⟨rfl, ⟨hI hi _ W3 _ hi3 hlo (Nat.le_trans hsz2 hk3.size) (kept_putObj _ _ _ (by omega)), hlo, ?_, hl4, hk4⟩, ?_⟩⟩
        · exact Nat.le_trans (Nat.le_trans hsz2 hk3.size) (grownBy_putObj' W3 _ _).size
        · have hall : Kept (fun k => ((k < w.heap.size + 2 ∧ X k) ∨ hi ≤ k) ∨ k = w.heap.size + 1) W (W3.putObj (w.heap.size + 1) (.loop (rec (if (none : Option Code).isNone then .ready else .done) none))) :=
            (((Kept.of_below hbA).trans (keptImp hk2 fun k e => .inr e)).trans (keptImp hk3 fun k e => .inl e)).trans (kept_putObj _ _ _ (.inr rfl))
          refine ⟨hall.os, hall.tape, hall.output, hall.size, fun k hk' hm => ?_⟩
          by_cases e : k = w.heap.size + 1
          · rw [e, hl]; exact hl4
          · exact hall.block k hk' (by
              rintro (h | h)
              · exact hm (by rw [hs1]; exact h)
              · exact e h)
      | ret =>
        obtain ⟨hk3, hi3⟩ := hp
        obtain ⟨hr, hl4, hk4, hlt3⟩ := fin (some .ret) W3 hk3
        exact ⟨_, _, hr, .inr ⟨rfl, .ret, hIx _ _ _ _ hi3 (kept_putObj _ _ _ (by omega)), hl4, hk4⟩⟩
      | exit id =>
        obtain ⟨hk3, hi3⟩ := hp
        obtain ⟨hr, hl4, hk4, hlt3⟩ := fin (some (.exit id)) W3 hk3
        exact ⟨_, _, hr, .inr ⟨rfl, .exit id, hIx _ _ _ _ hi3 (kept_putObj _ _ _ (by omega)), hl4, hk4⟩⟩
      | goto t =>
        obtain ⟨hk3, hi3⟩ := hp
        obtain ⟨hr, hl4, hk4, hlt3⟩ := fin (some (.goto t)) W3 hk3
        exact ⟨_, _, hr, .inr ⟨rfl, .goto t, hIx _ _ _ _ hi3 (kept_putObj _ _ _ (by omega)), hl4, hk4⟩⟩
      | panic ch => exact hp.elim
      | outgrown => exact hp.elim
    case sr =>
      rintro e W2 ⟨⟨v, rfl⟩, (⟨hi, xs, hS, h1, h2, h3, hl, hk⟩ | ⟨pre, hSp, c, h1, hl, hk⟩)⟩
      · exact ⟨none, _, by have := run_endLoop (P := P) hl (by rw [hrec]; simp); rw [hrec] at this; exact this, hdone hi xs _ hS (hI hi xs W2 _ h1 h2 h3 (kept_putObj _ _ _ (by omega))) ((World.putObj_heap_other (by omega)).trans hk)⟩
      · exact ⟨some c, _, by have := run_endLoop (P := P) hl (by rw [hrec]; simp); rw [hrec] at this; exact this, hstop c pre _ hSp (hIx c pre W2 _ h1 (kept_putObj _ _ _ (by omega))) ((World.putObj_heap_other (by omega)).trans hk)⟩
end Go.Proofs.YtfildbkkmnfekaaGreatDoor
