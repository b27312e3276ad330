/- What SameClass returns. -/
import Derived.Test.YtfildbkkmnfekaaGreatDoorRowA
import Derived.WalkKit
import Derived.WalkSpells
import Derived.WalkLawsBesides
import Derived.BigGuardPart
import Derived.Lib.Hide
import Derived.Deep.QuietTactic
import Derived.BigQuiet
import Derived.StillTailTactics
import Derived.Deep.DeepCutAuto
import Derived.Deep.CutBlock
import Derived.Laws.EntriesVeiled
namespace Go.Proofs.YtfildbkkmnfekaaGreatDoor
open Go.RowKit

def sameLF (f : Cls → Cls → Bool) : List Cls → List Cls → Bool
  | [], [] => true
  | c :: l, c' :: l' => f c c' && sameLF f l l'
  | _, _ => false
def eqHead : Cls → Cls → Bool
  | .mk k ns nl s _ _, .mk k' ns' nl' s' _ _ => k == k' && (eqS ns ns' && eqS nl nl') && s.toList == s'.toList
def sameC : Nat → Cls → Cls → Bool
  | 0, _, _ => false
  | d + 1, .mk k ns nl s ex ar, .mk k' ns' nl' s' ex' ar' => k == k' && (eqS ns ns' && eqS nl nl') && (s.toList == s'.toList) && sameLF (sameC d) ex ex' && sameLF (sameC d) ar ar'
theorem sameLF_step {f : Cls → Cls → Bool} {l l' : List Cls} {i : Nat} {x y : Cls} (hx : l[i]? = some x) (hy : l'[i]? = some y) : sameLF f (l.drop i) (l'.drop i) = (f x y && sameLF f (l.drop (i + 1)) (l'.drop (i + 1))) := by
  obtain ⟨h1, rfl⟩ := List.getElem?_eq_some_iff.1 hx
  obtain ⟨h2, rfl⟩ := List.getElem?_eq_some_iff.1 hy
  rw [List.drop_eq_getElem_cons h1, List.drop_eq_getElem_cons h2, sameLF]
theorem sameLF_len {f : Cls → Cls → Bool} : ∀ {l l' : List Cls}, l.length ≠ l'.length → sameLF f l l' = false
  | [], [], h => absurd rfl h
  | [], _ :: _, _ => by simp [sameLF]
  | _ :: _, [], _ => by simp [sameLF]
  | x :: l, y :: l', h => by rw [sameLF, sameLF_len (by simpa using h), Bool.and_false]
/-- What sameClass answers of two classes at the depth d. -/
def SameAt (d : Nat) : Prop := ∀ (x y : Cls) (cs cs' : List Value) (w : World) (F F' : Nat → Prop), RepC w F x cs → RepC w F' y cs' →
    Calls Tryz.prog 72 #[.agg cs.toArray, .agg cs'.toArray, .int .i64 (d : Nat)] w fun e w' => e = .returned (.bool (sameC d x y)) ∧ Below w.heap.size w w'

set_option maxHeartbeats 1000000 in
set_option maxRecDepth 100000 in
theorem samel_any (d : Nat) (hs : SameAt d) (l l' : List Cls) (A A' : Option Addr) (n n' c c' : Nat) (w : World) (F F' : Nat → Prop) (h1 : RowL w F l A n) (h2 : RowL w F' l' A' n') (hn : n < 2000000000000) :
    Calls Tryz.prog 90 #[.slice A n c, .slice A' n' c', .int .i64 (d : Nat)] w fun e w' => e = .returned (.bool (sameLF (sameC d) l l')) ∧ Below w.heap.size w w' := by
  have hrow := h1.here
  have hrow' := h2.here
  have HS := Lib.hid hs
  clear h1 h2 hs
  by_cases hnn : n = n'
  · subst hnn
    have hbe : (!((n : Int) == (n : Int))) = false := by simp
    go_enter Tryz.func90, Tryz.ntmps90
    go_wp2_with fail
    go_loopw [7] (fun si wr => ∃ i : Nat, i ≤ n ∧ si = .int .i64 i ∧ Hid (sameLF (sameC d) l l' = sameLF (sameC d) (l.drop i) (l'.drop i)) ∧ Below w.heap.size w wr)
      (fun si _ => n - (intOf si).toNat)
    case atStart => exact ⟨0, by omega, rfl, Lib.hid rfl, Below.refl _ _⟩
    case round =>
      obtain ⟨i, hi, rfl, HL, hbw⟩ := hrel
      by_cases hlt : i < n
      · obtain ⟨b1, off1, x, v0, v1, v2, v3, v4, v5, HX, hrx, p0, p1, p2, p3, p4, p5, hix⟩ := hrow.round hbw hlt c
        obtain ⟨b2, off2, y, u0, u1, u2, u3, u4, u5, HY, hry, r0, r1, r2, r3, r4, r5, hiy⟩ := hrow'.round hbw hlt c'
        have hd : decide (i < n) = true := by simp; omega
        go_wp2_with fail
        go_still_tail 9, (by kernel_rfl)
        change wpList _ _ _ _ _ wr.drew
        go_wp2_with fail
        refine (HS.out x y _ _ _ _ _ hrx.drew hry.drew).mono ?_
        rintro e w2 ⟨rfl, hb2⟩
        have hbb := hbw.trans ((Below.drew1 hb2).mono hbw.size)
        cases hv : sameC d x y
        · have HV := Lib.hid hv; clear hv
          go_wp2_with fail
          go_ret
          exact ⟨ret_bool (by rw [HL.out, sameLF_step HX.out HY.out, HV.out]; rfl), hbb⟩
        · have HV := Lib.hid hv; clear hv
          go_wp2_with fail
          go_roundw
          case rel => exact ⟨i + 1, by omega, by go_num, Lib.hid (by rw [HL.out, sameLF_step HX.out HY.out, HV.out]; rfl), hbb⟩
          case measure => simp [intOf]; omega
      · have hd : decide (i < n) = false := by simp; omega
        have hdn : l.drop i = [] := List.drop_eq_nil_of_le (by have := hrow.len; omega)
        have hdn' : l'.drop i = [] := List.drop_eq_nil_of_le (by have := hrow'.len; omega)
        have HE := Lib.hid hdn; have HE' := Lib.hid hdn'; clear hdn hdn'
        go_wp2_with fail
        go_ret
        exact ⟨ret_bool (by rw [HL.out, HE.out, HE'.out]; rfl), hbw⟩
  · have HNN : Hid (sameLF (sameC d) l l' = false) := sameLF_len (by have := hrow.len; have := hrow'.len; omega)
    have hb : (((n : Int) == (n' : Int))) = false := by simp; omega
    have hb2 : (((n : Int) != (n' : Int))) = true := by simp; omega
    clear hnn
    go_enter Tryz.func90, Tryz.ntmps90
    go_wp2_with fail
    go_ret
    exact ⟨ret_bool HNN.out.symm, Below.refl _ _⟩

set_option maxHeartbeats 1000000 in
set_option maxRecDepth 100000 in
theorem same_any : ∀ d, d < 1000 → SameAt d := by
  intro d
  induction d with
  | zero =>
    rintro hd ⟨k, ns, nl, s, ex, ar⟩ ⟨k', ns', nl', s', ex', ar'⟩ cs cs' w F F' hr hr'
    obtain ⟨A, n, c, A', n', c', rfl, hl, hl', h1, h2⟩ := hr.form
    obtain ⟨A2, m, c2, A2', m', c2', rfl, hm, hm', g1, g2⟩ := hr'.form
    go_enter Tryz.func72, Tryz.ntmps72
    go_wp2_with fail
    go_ret
    exact ⟨rfl, ((Below.refl _ _).alloc (Nat.le_refl _) _).alloc (by simp) _⟩
  | succ d ih =>
    rintro hd ⟨k, ns, nl, s, ex, ar⟩ ⟨k', ns', nl', s', ex', ar'⟩ cs cs' w F F' hr hr'
    obtain ⟨A, n, c, A', n', c', rfl, hl, hl', h1, h2⟩ := hr.here.form
    obtain ⟨A2, m, c2, A2', m', c2', rfl, hm, hm', g1, g2⟩ := hr'.here.form
    have HI := Lib.hid (ih (by omega)); clear ih hr hr'
    obtain ⟨w1, hw1, hb1, hb2, hsz, hbw⟩ := alloc2_facts w (.cells #[.int .i64 k, .string ns, .string nl, .string s, .slice A n c, .slice A' n' c'] 28) (.cells #[.int .i64 k', .string ns', .string nl', .string s', .slice A2 m c2, .slice A2' m' c2'] 28)
    obtain ⟨q0, q1, q2, q3, q4, q5⟩ := blk6 hb1
    obtain ⟨r0, r1, r2, r3, r4, r5⟩ := blk6 hb2
    have H1 := Lib.hid hb1; have H2 := Lib.hid hb2
    clear hb1 hb2
    have hdp : decide (0 < (d : Int) + 1) = true := decide_eq_true (by omega)
    obtain ⟨b1, hb1⟩ : ∃ v, (k == k') = v := ⟨_, rfl⟩
    obtain ⟨b2, hb2⟩ : ∃ v, (eqS ns ns' && eqS nl nl') = v := ⟨_, rfl⟩
    obtain ⟨b3, hb3⟩ : ∃ v, (s.toList == s'.toList) = v := ⟨_, rfl⟩
    have hq : ∀ W, (binOp .eql 24 (.agg #[.string ns, .string nl]) (.agg #[.string ns', .string nl'])).run Tryz.prog W = .ok (.bool b2) W := fun W => by rw [run_eql_name, hb2]
    have HR : Hid (sameC (d + 1) (.mk k ns nl s ex ar) (.mk k' ns' nl' s' ex' ar') = (b1 && b2 && b3 && sameLF (sameC d) ex ex' && sameLF (sameC d) ar ar')) := by rw [sameC, hb1, hb2, hb3]; exact rfl
    clear hb2
    rw [show ((d + 1 : Nat) : Int) = (d : Int) + 1 from rfl]
    cases b1 with
    | false =>
      go_enter Tryz.func72, Tryz.ntmps72
      go_wp2_with fail
      go_ret
      exact ⟨ret_bool (by rw [HR.out]; rfl), hbw⟩
    | true =>
      cases b2 with
      | false =>
        go_enter Tryz.func72, Tryz.ntmps72
        go_wp2_with fail
        go_ret
        exact ⟨ret_bool (by rw [HR.out]; rfl), hbw⟩
      | true =>
        cases b3 with
        | false =>
          go_enter Tryz.func72, Tryz.ntmps72
          go_wp2_with fail
          go_ret
          exact ⟨ret_bool (by rw [HR.out]; rfl), hbw⟩
        | true =>
          go_enter Tryz.func72, Tryz.ntmps72
          go_wp2_with fail
          have HW := Lib.hid hw1; clear hw1
          refine (samel_any d HI.out ex ex' _ _ _ _ _ _ _ _ _ (h1.below hbw) (g1.below hbw) hl).mono ?_
          rintro e w2 ⟨rfl, hb2⟩
          have hbw2 := hbw.seq hb2
          clear q0 q1 q2 q3 q4 q5 r0 r1 r2 r3 r4 r5
          obtain ⟨q0, q1, q2, q3, q4, q5⟩ := blk6 (hp_below H1.out hb2)
          obtain ⟨r0, r1, r2, r3, r4, r5⟩ := blk6 (hp_below H2.out hb2)
          cases hv : sameLF (sameC d) ex ex' with
          | false =>
            have HV := Lib.hid hv; clear hv
            go_wp2_with fail
            go_ret
            exact ⟨ret_bool (by rw [HR.out, HV.out]; rfl), hbw2⟩
          | true =>
            have HV := Lib.hid hv; clear hv
            go_wp2_with fail
            refine (samel_any d HI.out ar ar' _ _ _ _ _ _ _ _ _ (h2.below hbw2) (g2.below hbw2) hl').mono ?_
            rintro e w3 ⟨rfl, hb3⟩
            have hbw3 := hbw2.seq hb3
            go_wp2_with fail
            go_ret
            exact ⟨ret_bool (by rw [HR.out, HV.out]; simp), hbw3⟩

set_option maxHeartbeats 1000000 in
set_option maxRecDepth 100000 in
theorem SameClass_any (x y : Cls) (cs cs' : List Value) (w : World) (F F' : Nat → Prop) (hr : RepC w F x cs) (hr' : RepC w F' y cs') :
    Calls Tryz.prog 36 #[.agg cs.toArray, .agg cs'.toArray] w fun e w' => e = .returned (.bool (sameC 40 x y)) ∧ Below w.heap.size w w' := by
  obtain ⟨k, ns, nl, s, ex, ar⟩ := x
  obtain ⟨k', ns', nl', s', ex', ar'⟩ := y
  obtain ⟨A, n, c, A', n', c', rfl, -, -, -, -⟩ := hr.form
  obtain ⟨A2, m, c2, A2', m', c2', rfl, -, -, -, -⟩ := hr'.form
  have h40 : ∀ (W : World) (F F' : Nat → Prop) (cs cs' : List Value), RepC W F (.mk k ns nl s ex ar) cs → RepC W F' (.mk k' ns' nl' s' ex' ar') cs' →
    Calls Tryz.prog 72 #[.agg cs.toArray, .agg cs'.toArray, .int .i64 40] W fun e w' => e = .returned (.bool (sameC 40 (.mk k ns nl s ex ar) (.mk k' ns' nl' s' ex' ar'))) ∧ Below W.heap.size W w' := fun W F F' cs cs' h h' => same_any 40 (by omega) _ _ _ _ _ _ _ h h'
  have H40 := Lib.hid h40
  clear h40
  obtain ⟨w1, hw1, hb1, hb2, hsz, hbw⟩ := alloc2_facts w (.cells #[.int .i64 k, .string ns, .string nl, .string s, .slice A n c, .slice A' n' c'] 28) (.cells #[.int .i64 k', .string ns', .string nl', .string s', .slice A2 m c2, .slice A2' m' c2'] 28)
  obtain ⟨q0, q1, q2, q3, q4, q5⟩ := blk6 hb1
  obtain ⟨r0, r1, r2, r3, r4, r5⟩ := blk6 hb2
  clear hb1 hb2
  go_enter Tryz.func36, Tryz.ntmps36
  go_wp2_with fail
  refine (H40.out _ _ _ _ _ (hr.here.below hbw) (hr'.here.below hbw)).mono ?_
  rintro e w2 ⟨rfl, hb2⟩
  have hbw2 := hbw.seq hb2
  go_wp2_with fail
  go_ret
  exact ⟨rfl, hbw2⟩
end Go.Proofs.YtfildbkkmnfekaaGreatDoor
