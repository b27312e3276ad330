/- What names.Check returns. What names.has returns. -/
import Derived.Test.YtfildbkkmnfekaaGreatDoorChkA
import Derived.Test.YtfildbkkmnfekaaGreatDoorRep
import Derived.WalkKit
import Derived.WalkSpells
import Derived.WalkLawsBesides
import Derived.BigGuardPart
import Derived.Lib.Hide
import Derived.Deep.QuietTactic
import Derived.BigQuiet
import Derived.StillTailTactics
import Derived.Deep.DeepCutAuto
import Derived.Deep.CutBlock
import Derived.Laws.EntriesVeiled
namespace Go.Proofs.YtfildbkkmnfekaaGreatDoor
open Go.RowKit

/-- What names.Check returns. -/
def chkN (c : Cls) : Int := if (walkC 1 c 0 true).2.2 then (if (walkC 1 c 0 true).2.1 then 0 else 2) else 3

theorem walk_one (bm bf bk : Nat) (hmf : bm ≠ bf) (hmk : bm ≠ bk) (hfk : bf ≠ bk) (c : Cls) (cs : List Value) (w : World) (B : Nat) (hr : RepC w (· < B) c cs) (hBm : B ≤ bm) (hBf : B ≤ bf) (hst : ChkSt w bm bf bk 0 true) :
    Calls Tryz.prog 52 #[.agg cs.toArray, .int .i64 1, .pointer (some ⟨bm, 0, none⟩), .pointer (some ⟨bf, 0, none⟩), .pointer (some ⟨bk, 0, none⟩)] w (ChkPost bm bf bk (walkC 1 c 0 true) w) :=
  walk_any bm bf bk hmf hmk hfk c cs w B 1 0 true hr hBm hBf hst (by omega) (by omega)

set_option maxHeartbeats 1000000 in
set_option maxRecDepth 100000 in
theorem check_any (c : Cls) (cs : List Value) (w : World) (F : Nat → Prop) (hr : RepC w F c cs) :
    Calls Tryz.prog 15 #[.agg cs.toArray] w fun e w' => e = .returned (.int .i64 (chkN c)) ∧ Below w.heap.size w w' := by
  obtain ⟨k, ns, nl, s, ex, ar⟩ := c
  obtain ⟨A, n, c, A', n', c', rfl, hl, hl', h1, h2⟩ := hr.here.form
  obtain ⟨w1, hw1⟩ : ∃ w1, (((w.alloc (.cells #[.int .i64 k, .string ns, .string nl, .string s, .slice A n c, .slice A' n' c'] 28)).alloc (.cells #[.int .i64 0] 3)).alloc (.cells #[.bool true] 4)).alloc (.cells #[.func (.func 52) #[] #[.pointer (some ⟨w.heap.size + 1, 0, none⟩), .pointer (some ⟨w.heap.size + 1 + 1, 0, none⟩), .pointer (some ⟨w.heap.size + 1 + 1 + 1, 0, none⟩)]] 26) = w1 := ⟨_, rfl⟩
  have hbw : Below w.heap.size w w1 := by rw [← hw1]; exact ((((Below.refl _ _).alloc (Nat.le_refl _) _).alloc (by simp) _).alloc (by simp; omega) _).alloc (by simp; omega) _
  have e1 : (w.alloc (.cells #[.int .i64 k, .string ns, .string nl, .string s, .slice A n c, .slice A' n' c'] 28)).heap.size = w.heap.size + 1 := by simp
  have e2 : ((w.alloc (.cells #[.int .i64 k, .string ns, .string nl, .string s, .slice A n c, .slice A' n' c'] 28)).alloc (.cells #[.int .i64 0] 3)).heap.size = w.heap.size + 1 + 1 := by simp
  have e3 : (((w.alloc (.cells #[.int .i64 k, .string ns, .string nl, .string s, .slice A n c, .slice A' n' c'] 28)).alloc (.cells #[.int .i64 0] 3)).alloc (.cells #[.bool true] 4)).heap.size = w.heap.size + 1 + 1 + 1 := by simp
  have TB : w1.heap[w.heap.size]? = some (.cells #[.int .i64 k, .string ns, .string nl, .string s, .slice A n c, .slice A' n' c'] 28) := by rw [← hw1]; exact hp_alloc (hp_alloc (hp_alloc (heap_alloc_new _ _)))
  have T1 : w1.heap[w.heap.size + 1]? = some (.cells #[.int .i64 ((0 : Nat) : Int)] 3) := by rw [← hw1, ← e1]; exact hp_alloc (hp_alloc (heap_alloc_new _ _))
  have T2 : w1.heap[w.heap.size + 1 + 1]? = some (.cells #[.bool true] 4) := by rw [← hw1, ← e2]; exact hp_alloc (heap_alloc_new _ _)
  have T3 : w1.heap[w.heap.size + 1 + 1 + 1]? = some (.cells #[.func (.func 52) #[] #[.pointer (some ⟨w.heap.size + 1, 0, none⟩), .pointer (some ⟨w.heap.size + 1 + 1, 0, none⟩), .pointer (some ⟨w.heap.size + 1 + 1 + 1, 0, none⟩)]] 26) := by rw [← hw1, ← e3]; exact heap_alloc_new _ _
  have hst : ChkSt w1 (w.heap.size + 1) (w.heap.size + 1 + 1) (w.heap.size + 1 + 1 + 1) 0 true := ⟨T1, T2, T3⟩
  obtain ⟨q0, q1, q2, q3, q4, q5⟩ := blk6 TB
  have c3 := blk1 T3
  have HST := Lib.hid hst
  have hrw := Lib.hid (hr.here.below hbw)
  clear T1 T2 T3 TB hst e1 e2 e3 hr
  go_enter Tryz.func15, Tryz.ntmps15
  go_wp2_with fail
  have HW := Lib.hid hw1; clear hw1
  refine (walk_one _ _ _ (by omega) (by omega) (by omega) _ _ _ w.heap.size hrw.out (by omega) (by omega) HST.out).mono ?_
  rintro e w2 ⟨rfl, hst2, hK⟩
  have hb2 : Below w.heap.size w w2 := hbw.trans (hK.below hbw.size (by intro k hk h; omega))
  have d2 := blk1 hst2.2.1
  obtain ⟨r, hr⟩ : ∃ r, walkC 1 (.mk k ns nl s ex ar) 0 true = r := ⟨_, rfl⟩
  have HC : Hid (chkN (.mk k ns nl s ex ar) = (if r.2.2 then (if r.2.1 then 0 else 2) else 3)) := by unfold chkN; rw [hr]; exact rfl
  rw [hr] at d2 ⊢
  have HR := Lib.hid hr
  clear hr hst2 q0 q1 q2 q3 q4 q5 c3
  obtain ⟨rm, rf, rk⟩ := r
  dsimp only at d2 ⊢
  cases rk
  · go_wp2_with fail
    go_ret
    exact ⟨ret_int (by rw [HC.out]; rfl), hb2⟩
  · cases rf
    all_goals
      go_wp2_with fail
      go_ret
      exact ⟨ret_int (by rw [HC.out]; rfl), hb2⟩
end Go.Proofs.YtfildbkkmnfekaaGreatDoor
namespace Go.Proofs.YtfildbkkmnfekaaGreatDoor
open Go.RowKit

mutual
def hasC : Cls → ByteArray → ByteArray → Bool
  | .mk k ns nl s ex ar, a, b => !hasL ex a b && (if k = 1 then eqS ns a && eqS nl b else if k = 2 then eqS s a else if k = 4 then hasL ar a b else true)
def hasL : List Cls → ByteArray → ByteArray → Bool
  | [], _, _ => false
  | c :: l, a, b => hasC c a b || hasL l a b
end
/-- The index of the first class that has the name. -/
def idxL : List Cls → ByteArray → ByteArray → Nat → Int
  | [], _, _, _ => -1
  | c :: l, a, b, i => if hasC c a b then i else idxL l a b (i + 1)
theorem idxL_nonneg (l : List Cls) (a b : ByteArray) : ∀ i, decide (0 ≤ idxL l a b i) = hasL l a b := by
  induction l with
  | nil => intro i; simp [idxL, hasL]
  | cons c l ih =>
    intro i
    rw [idxL, hasL]
    cases hasC c a b
    · simpa using ih (i + 1)
    · simp
theorem idxL_step {l : List Cls} {i : Nat} {ch : Cls} {a b : ByteArray} (h : l[i]? = some ch) : idxL (l.drop i) a b i = if hasC ch a b then (i : Int) else idxL (l.drop (i + 1)) a b (i + 1) := by
  obtain ⟨hi, rfl⟩ := List.getElem?_eq_some_iff.1 h
  rw [List.drop_eq_getElem_cons hi, idxL]
theorem kind124 (k : Int) : (k == 1) = true ∨ ((k == 1) = false ∧ (k == 2) = true) ∨ ((k == 1) = false ∧ (k == 2) = false ∧ (k == 4) = true) ∨ ((k == 1) = false ∧ (k == 2) = false ∧ (k == 4) = false) := by
  cases (k == 1) <;> cases (k == 2) <;> cases (k == 4) <;> simp
/-- What the closure 'is' answers of a class, in every world in which its name lies at bn. -/
def IsAt (bn : Nat) (a b : ByteArray) (ch : Cls) : Prop := ∀ (cs : List Value) (w : World) (F : Nat → Prop), RepC w F ch cs → w.heap[bn]? = some (.cells #[.string a, .string b] 24) →
    Calls Tryz.prog 79 #[.agg cs.toArray, .pointer (some ⟨bn, 0, none⟩)] w fun e w' => e = .returned (.bool (hasC ch a b)) ∧ Below w.heap.size w w'

set_option maxHeartbeats 1000000 in
set_option maxRecDepth 100000 in
theorem idx_any (bn : Nat) (a b : ByteArray) (l : List Cls) (A : Option Addr) (n c : Nat) (w : World) (F : Nat → Prop) (hrow0 : RowL w F l A n) (hn : n < 2000000000000)
    (hbn : w.heap[bn]? = some (.cells #[.string a, .string b] 24)) (hf : ∀ ch ∈ l, IsAt bn a b ch) :
    Calls Tryz.prog 95 #[.slice A n c, .func (.func 79) #[] #[.pointer (some ⟨bn, 0, none⟩)]] w fun e w' => e = .returned (.int .i64 (idxL l a b 0)) ∧ Below w.heap.size w w' := by
  have hrow := hrow0.here
  have HF := Lib.hid hf; have HB := Lib.hid hbn; clear hf hrow0 hbn
  go_enter Tryz.func95, Tryz.ntmps95
  go_wp2_with fail
  go_loopw [8] (fun si wr => ∃ i : Nat, i ≤ n ∧ si = .int .i64 i ∧ Hid (idxL l a b 0 = idxL (l.drop i) a b i) ∧ Below w.heap.size w wr)
    (fun si _ => n - (intOf si).toNat)
  case atStart => exact ⟨0, by omega, rfl, Lib.hid rfl, Below.refl _ _⟩
  case round =>
    obtain ⟨i, hi, rfl, HL, hbw⟩ := hrel
    by_cases hlt : i < n
    · obtain ⟨b', off, ch, v0, v1, v2, v3, v4, v5, HX, hrc, p0, p1, p2, p3, p4, p5, hix⟩ := hrow.round hbw hlt c
      have hd : decide (i < n) = true := by simp; omega
      go_wp2_with fail
      refine (HF.out ch (mem_of_hid HX) _ _ _ hrc (hp_below HB.out hbw)).mono ?_
      rintro e3 w3 ⟨rfl, hb3⟩
      cases hv : hasC ch a b with
      | true =>
        have HV := Lib.hid hv; clear hv
        go_wp2_with fail
        go_ret
        exact ⟨ret_int (by rw [HL.out, idxL_step HX.out, if_pos HV.out]), hbw.trans (hb3.mono hbw.size)⟩
      | false =>
        have HV := Lib.hid hv; clear hv
        go_wp2_with fail
        go_roundw
        case rel => exact ⟨i + 1, by omega, by go_num, Lib.hid (by rw [HL.out, idxL_step HX.out, HV.out]; rfl), hbw.trans (hb3.mono hbw.size)⟩
        case measure => simp [intOf]; omega
    · have hd : decide (i < n) = false := by simp; omega
      have hdn : l.drop i = [] := List.drop_eq_nil_of_le (by have := hrow.len; omega)
      have HE := Lib.hid hdn; clear hdn
      go_wp2_with fail
      go_ret
      exact ⟨ret_int (by rw [HL.out, HE.out, idxL]), hbw⟩

set_option maxHeartbeats 1000000 in
set_option maxRecDepth 100000 in
theorem contains_any (bn : Nat) (a b : ByteArray) (l : List Cls) (A : Option Addr) (n c : Nat) (w : World) (F : Nat → Prop) (hrow : RowL w F l A n) (hn : n < 2000000000000)
    (hbn : w.heap[bn]? = some (.cells #[.string a, .string b] 24)) (hf : ∀ ch ∈ l, IsAt bn a b ch) :
    Calls Tryz.prog 80 #[.slice A n c, .func (.func 79) #[] #[.pointer (some ⟨bn, 0, none⟩)]] w fun e w' => e = .returned (.bool (hasL l a b)) ∧ Below w.heap.size w w' := by
  have HF := Lib.hid hf; have HB := Lib.hid hbn; clear hf hbn
  go_enter Tryz.func80, Tryz.ntmps80
  go_wp2_with fail
  refine (idx_any bn a b l A n c w F hrow hn HB.out HF.out).mono ?_
  rintro e w2 ⟨rfl, hb2⟩
  go_wp2_with fail
  go_ret
  exact ⟨ret_bool (idxL_nonneg l a b 0), hb2⟩

set_option maxHeartbeats 1000000 in
set_option maxRecDepth 100000 in
theorem has_any (a b : ByteArray) (c : Cls) : ∀ (cs : List Value) (w : World) (F : Nat → Prop), RepC w F c cs →
    Calls Tryz.prog 46 #[.agg cs.toArray, .agg #[.string a, .string b]] w fun e w' => e = .returned (.bool (hasC c a b)) ∧ Below w.heap.size w w' := by
  induction c using Cls.ind with
  | _ k ns nl s ex ar ihe iha =>
    intro cs w F hr0
    obtain ⟨A, n, c, A', n', c', rfl, hl, hl', h1, h2⟩ := hr0.here.form
    have his : ∀ (l : List Cls), (∀ ch ∈ l, ∀ (cs : List Value) (w : World) (F : Nat → Prop), RepC w F ch cs →
        Calls Tryz.prog 46 #[.agg cs.toArray, .agg #[.string a, .string b]] w fun e w' => e = .returned (.bool (hasC ch a b)) ∧ Below w.heap.size w w') → ∀ bn, ∀ ch ∈ l, IsAt bn a b ch := by
      intro l ih bn ch hch cs W F hr hbn
      obtain ⟨ke, nse, nle, se, exe, are⟩ := ch
      obtain ⟨Ae, ne, ce, Ae', ne', ce', rfl, -, -, -, -⟩ := hr.form
      have HI := Lib.hid (ih _ hch _ _ _ hr.here)
      have hlt := hp_lt hbn
      obtain ⟨n0, n1⟩ := blk2 hbn
      have HB := Lib.hid hbn
      have HR := Lib.hid hr.here
      have HIH := Lib.hid (ih _ hch)
      clear ih hr hch hbn
      go_enter Tryz.func79, Tryz.ntmps79
      go_wp2_with fail
      refine (HIH.out _ _ _ (HR.out.below ((Below.refl _ _).alloc (Nat.le_refl _) _))).mono ?_
      rintro e w2 ⟨rfl, hb2⟩
      have hbb := ((Below.refl _ W).alloc (Nat.le_refl _) _).trans (hb2.mono (by simp))
      go_wp2_with fail
      go_ret
      exact ⟨rfl, hbb⟩
    have HE := Lib.hid (his ex ihe); have HA := Lib.hid (his ar iha); clear ihe iha hr0 his
    have heq := run_eql_name
    have hes := eqS_def
    obtain ⟨w1, hw1, hb1, hb2, hsz, hbw⟩ := alloc2_facts w (.cells #[.int .i64 k, .string ns, .string nl, .string s, .slice A n c, .slice A' n' c'] 28) (.cells #[.string a, .string b] 24)
    obtain ⟨q0, q1, q2, q3, q4, q5⟩ := blk6 hb1
    have H1 := Lib.hid hb1; have H2 := Lib.hid hb2
    clear hb1 hb2
    go_enter Tryz.func46, Tryz.ntmps46
    go_wp2_with fail
    have HW := Lib.hid hw1; clear hw1
    refine (contains_any _ a b ex A n c _ _ (h1.below hbw) hl H2.out (HE.out _)).mono ?_
    rintro e w2 ⟨rfl, hb2⟩
    have hbw2 := hbw.seq hb2
    clear q0 q1 q2 q3 q4 q5
    have HB2 := Lib.hid (hp_below H1.out hb2); have HN2 := Lib.hid (hp_below H2.out hb2)
    obtain ⟨q0, q1, q2, q3, q4, q5⟩ := blk6 HB2.out
    obtain ⟨n0, n1⟩ := blk2 HN2.out
    cases hv : hasL ex a b with
    | true =>
      have HR : Hid (hasC (.mk k ns nl s ex ar) a b = false) := by rw [hasC, hv]; exact rfl
      clear hv
      go_wp2_with fail
      go_ret
      exact ⟨ret_bool HR.out.symm, hbw2⟩
    | false =>
      have HR : Hid (hasC (.mk k ns nl s ex ar) a b = (if k = 1 then eqS ns a && eqS nl b else if k = 2 then eqS s a else if k = 4 then hasL ar a b else true)) := by rw [hasC, hv]; exact rfl
      clear hv
      rcases kind124 k with hk | ⟨hk, hk2⟩ | ⟨hk, hk2, hk3⟩ | ⟨hk, hk2, hk3⟩
      · go_wp2_with fail
        go_ret
        exact ⟨ret_bool (by rw [HR.out, if_pos (by simpa using hk)]), hbw2⟩
      · go_wp2_with fail
        go_ret
        exact ⟨ret_bool (by rw [HR.out, if_neg (by simpa using hk), if_pos (by simpa using hk2)]), hbw2⟩
      · go_wp2_with fail
        refine (contains_any _ a b ar A' n' c' _ _ (h2.below hbw2) hl' HN2.out (HA.out _)).mono ?_
        rintro e w3 ⟨rfl, hb3⟩
        have hbw3 := hbw2.seq hb3
        go_wp2_with fail
        go_ret
        exact ⟨ret_bool (by rw [HR.out, if_neg (by simpa using hk), if_neg (by simpa using hk2), if_pos (by simpa using hk3)]), hbw3⟩
      · go_wp2_with fail
        go_ret
        exact ⟨ret_bool (by rw [HR.out, if_neg (by simpa using hk), if_neg (by simpa using hk2), if_neg (by simpa using hk3)]), hbw2⟩
end Go.Proofs.YtfildbkkmnfekaaGreatDoor
