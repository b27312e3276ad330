/- What In returns of a class and a name. What Valid and formed return. -/
import Derived.Test.YtfildbkkmnfekaaGreatDoorRep
import Derived.WalkKit
import Derived.WalkSpells
import Derived.WalkLawsBesides
import Derived.BigGuardPart
import Derived.Lib.Hide
import Derived.Deep.QuietTactic
import Derived.BigQuiet
import Derived.StillTailTactics
namespace Go.Proofs.YtfildbkkmnfekaaGreatDoor
open Go.RowKit

mutual
def inC : Cls → ByteArray → ByteArray → Bool
  | .mk k ns nl s ex ar, a, b => !inH ex a b && (if k = 1 then eqS ns a && eqS nl b else if k = 2 then eqS s a else if k = 3 then true else inL ar a b)
def inH : List Cls → ByteArray → ByteArray → Bool
  | [], _, _ => false
  | c :: _, a, b => inC c a b
def inL : List Cls → ByteArray → ByteArray → Bool
  | [], _, _ => false
  | c :: l, a, b => inC c a b || inL l a b
end
theorem inL_step {l : List Cls} {i : Nat} {ch : Cls} {a b : ByteArray} (h : l[i]? = some ch) : inL (l.drop i) a b = (inC ch a b || inL (l.drop (i + 1)) a b) := by
  obtain ⟨hi, rfl⟩ := List.getElem?_eq_some_iff.1 h
  rw [List.drop_eq_getElem_cons hi, inL]

set_option maxHeartbeats 1000000 in
set_option maxRecDepth 100000 in
theorem in_any (a b : ByteArray) (c : Cls) : ∀ (cs : List Value) (w : World) (F : Nat → Prop), RepC w F c cs →
    Calls Tryz.prog 48 #[.agg cs.toArray, .agg #[.string a, .string b]] w fun e w' => e = .returned (.bool (inC c a b)) ∧ Below w.heap.size w w' := by
  induction c using Cls.ind with
  | _ k ns nl s ex ar ihe iha =>
    intro cs w F hr0
    obtain ⟨A, n, c, A', n', c', rfl, hl, hl', h1, h2⟩ := hr0.here.form
    have HE := Lib.hid ihe; have HA := Lib.hid iha; clear ihe iha hr0
    have heq := run_eql_name
    have hes := eqS_def
    obtain ⟨vh, hvh⟩ : ∃ vh, inH ex a b = vh := ⟨_, rfl⟩
    have HR : Hid (inC (.mk k ns nl s ex ar) a b = (!vh && (if k = 1 then eqS ns a && eqS nl b else if k = 2 then eqS s a else if k = 3 then true else inL ar a b))) := by rw [inC, hvh]; exact rfl
    have HV := Lib.hid hvh; clear hvh
    obtain ⟨w1, hw1, hb1, hb2, hsz, hbw⟩ := alloc2_facts w (.cells #[.int .i64 k, .string ns, .string nl, .string s, .slice A n c, .slice A' n' c'] 28) (.cells #[.string a, .string b] 24)
    have H1 := Lib.hid hb1; have H2 := Lib.hid hb2
    clear hb1 hb2
    go_enter Tryz.func48, Tryz.ntmps48
    go_wp2_with fail
    have HW := Lib.hid hw1; clear hw1
    cases ex with
    | nil =>
      obtain ⟨q0, q1, q2, q3, q4, q5⟩ := blk6 H1.out
      obtain ⟨n0, n1⟩ := blk2 H2.out
      have hv : vh = false := by rw [← HV.out]; rfl
      subst hv
      obtain rfl : n = 0 := h1.len
      go_quiet (fail)
      rcases kind3 k with hk | ⟨hk, hk2⟩ | ⟨hk, hk2, hk3⟩ | ⟨hk, hk2, hk3⟩
      · go_wp2_with fail
        go_ret
        exact ⟨ret_bool (by rw [HR.out, if_pos (by simpa using hk)]; rfl), hbw.drewN _⟩
      · go_wp2_with fail
        go_ret
        exact ⟨ret_bool (by rw [HR.out, if_neg (by simpa using hk), if_pos (by simpa using hk2)]; rfl), hbw.drewN _⟩
      · go_wp2_with fail
        go_ret
        exact ⟨ret_bool (by rw [HR.out, if_neg (by simpa using hk), if_neg (by simpa using hk2), if_pos (by simpa using hk3)]; rfl), hbw.drewN _⟩
      · go_wp2_with fail
        have HR2 : Hid (inC (.mk k ns nl s [] ar) a b = inL ar a b) := by rw [HR.out, if_neg (by simpa using hk), if_neg (by simpa using hk2), if_neg (by simpa using hk3)]; exact rfl
        clear q0 q1 q2 q3 q4 q5 n0 n1
        go_loopw [5] (fun si wr => ∃ i : Nat, i ≤ n' ∧ si = .int .i64 i ∧ Hid (inL ar a b = inL (ar.drop i) a b) ∧ Below w1.heap.size w1 wr)
          (fun si _ => n' - (intOf si).toNat)
        case atStart => exact ⟨0, by omega, rfl, Lib.hid rfl, (Below.refl _ _).drewN _⟩
        case round =>
          obtain ⟨i, hi, rfl, HL, hbr⟩ := hrel
          have hbr' : Below w.heap.size w wr := hbw.seq hbr
          obtain ⟨q0, q1, q2, q3, q4, q5⟩ := blk6 ((hbr.block _ (by  omega)).trans H1.out)
          obtain ⟨n0, n1⟩ := blk2 ((hbr.block _ (by  omega)).trans H2.out)
          clear q0 q1 q2 q3 q4
          by_cases hlt : i < n'
          · obtain ⟨b', off, ch, v0, v1, v2, v3, v4, v5, HX, hrc, p0, p1, p2, p3, p4, p5, hix⟩ := h2.round hbr' hlt c'
            have hd : decide (i < n') = true := by simp; omega
            go_wp2_with fail
            go_still_tail 6, (by kernel_rfl)
            change wpList _ _ _ _ _ wr.drew
            go_wp2_with fail
            refine (HA.out ch (mem_of_hid HX) _ _ _ hrc.drew).mono ?_
            rintro e3 w3 ⟨rfl, hb3⟩
            cases hv : inC ch a b with
            | true =>
              have HV3 := Lib.hid hv; clear hv
              go_wp2_with fail
              go_ret
              exact ⟨ret_bool (by rw [HR2.out, HL.out, inL_step HX.out, HV3.out]; rfl), hbr'.trans ((Below.drew1 hb3).mono hbr'.size)⟩
            | false =>
              have HV3 := Lib.hid hv; clear hv
              go_wp2_with fail
              go_roundw
              case rel => exact ⟨i + 1, by omega, by go_num, Lib.hid (by rw [HL.out, inL_step HX.out, HV3.out]; rfl), hbr.trans ((Below.drew1 hb3).mono hbr.size)⟩
              case measure => simp [intOf]; omega
          · have hd : decide (i < n') = false := by simp; omega
            go_wp2_with fail
            go_ret
            exact ⟨ret_bool (by rw [HR2.out, HL.out, List.drop_eq_nil_of_le (by have := h2.len; omega)]; rfl), hbr'⟩
    | cons e ex =>
      obtain ⟨q0, q1, q2, q3, q4, q5⟩ := blk6 H1.out
      obtain ⟨n0, n1⟩ := blk2 H2.out
      obtain ⟨b', off, v0, v1, v2, v3, v4, v5, hrc, p0, p1, p2, p3, p4, p5, hpos, hix⟩ := h1.first hbw c
      go_still_tail 10, (by kernel_rfl)
      change wpList _ _ _ _ _ w1.drew
      go_wp2_with fail
      refine (HE.out e List.mem_cons_self _ _ _ hrc.drew).mono ?_
      rintro e2 w2 ⟨rfl, hb2⟩
      have hv : vh = inC e a b := by rw [← HV.out]; rfl
      have hbw2 := Below.drew1 hb2
      have hw2s := hbw2.size
      have hbww := hbw.seq hbw2
      clear q0 q1 q2 q3 q4 q5 n0 n1 p0 p1 p2 p3 p4 p5 hix hb2
      obtain ⟨q0, q1, q2, q3, q4, q5⟩ := blk6 ((hbw2.block _ (by omega)).trans H1.out)
      obtain ⟨n0, n1⟩ := blk2 ((hbw2.block _ hsz).trans H2.out)
      cases hve : inC e a b with
      | true =>
        rw [hve] at hv; subst hv; clear hve
        go_wp2_with fail
        go_ret
        exact ⟨ret_bool (by rw [HR.out]; rfl), hbww⟩
      | false =>
        rw [hve] at hv; subst hv; clear hve
        rcases kind3 k with hk | ⟨hk, hk2⟩ | ⟨hk, hk2, hk3⟩ | ⟨hk, hk2, hk3⟩
        · go_wp2_with fail
          go_ret
          exact ⟨ret_bool (by rw [HR.out, if_pos (by simpa using hk)]; rfl), hbww⟩
        · go_wp2_with fail
          go_ret
          exact ⟨ret_bool (by rw [HR.out, if_neg (by simpa using hk), if_pos (by simpa using hk2)]; rfl), hbww⟩
        · go_wp2_with fail
          go_ret
          exact ⟨ret_bool (by rw [HR.out, if_neg (by simpa using hk), if_neg (by simpa using hk2), if_pos (by simpa using hk3)]; rfl), hbww⟩
        · go_wp2_with fail
          have HR2 : Hid (inC (.mk k ns nl s (e :: ex) ar) a b = inL ar a b) := by rw [HR.out, if_neg (by simpa using hk), if_neg (by simpa using hk2), if_neg (by simpa using hk3)]; exact rfl
          clear q0 q1 q2 q3 q4 q5 n0 n1
          go_loopw [5] (fun si wr => ∃ i : Nat, i ≤ n' ∧ si = .int .i64 i ∧ Hid (inL ar a b = inL (ar.drop i) a b) ∧ Below w2.heap.size w2 wr)
            (fun si _ => n' - (intOf si).toNat)
          case atStart => exact ⟨0, by omega, rfl, Lib.hid rfl, Below.refl _ _⟩
          case round =>
            obtain ⟨i, hi, rfl, HL, hbr⟩ := hrel
            have hbr' : Below w.heap.size w wr := hbww.seq hbr
            obtain ⟨q0, q1, q2, q3, q4, q5⟩ := blk6 ((hbr.block _ (by  omega)).trans ((hbw2.block _ (by omega)).trans H1.out))
            obtain ⟨n0, n1⟩ := blk2 ((hbr.block _ (by  omega)).trans ((hbw2.block _ hsz).trans H2.out))
            clear q0 q1 q2 q3 q4
            by_cases hlt : i < n'
            · obtain ⟨b', off, ch, v0, v1, v2, v3, v4, v5, HX, hrc, p0, p1, p2, p3, p4, p5, hix⟩ := h2.round hbr' hlt c'
              have hd : decide (i < n') = true := by simp; omega
              go_wp2_with fail
              go_still_tail 6, (by kernel_rfl)
              change wpList _ _ _ _ _ wr.drew
              go_wp2_with fail
              refine (HA.out ch (mem_of_hid HX) _ _ _ hrc.drew).mono ?_
              rintro e3 w3 ⟨rfl, hb3⟩
              cases hv : inC ch a b with
              | true =>
                have HV3 := Lib.hid hv; clear hv
                go_wp2_with fail
                go_ret
                exact ⟨ret_bool (by rw [HR2.out, HL.out, inL_step HX.out, HV3.out]; rfl), hbr'.trans ((Below.drew1 hb3).mono hbr'.size)⟩
              | false =>
                have HV3 := Lib.hid hv; clear hv
                go_wp2_with fail
                go_roundw
                case rel => exact ⟨i + 1, by omega, by go_num, Lib.hid (by rw [HL.out, inL_step HX.out, HV3.out]; rfl), hbr.trans ((Below.drew1 hb3).mono hbr.size)⟩
                case measure => simp [intOf]; omega
            · have hd : decide (i < n') = false := by simp; omega
              go_wp2_with fail
              go_ret
              exact ⟨ret_bool (by rw [HR2.out, HL.out, List.drop_eq_nil_of_le (by have := h2.len; omega)]; rfl), hbr'⟩
end Go.Proofs.YtfildbkkmnfekaaGreatDoor
namespace Go.Proofs.YtfildbkkmnfekaaGreatDoor
open Go.RowKit

def validB (a b : ByteArray) : Bool := decide (1 ≤ b.size) && decide (b.size ≤ 200) && decide (a.size ≤ 200)
/-- Are the fields of a class as its kind has them? -/
def nodeB (k : Int) (ns nl s : ByteArray) (n n' : Nat) : Bool :=
  if k = 1 then validB ns nl && s.toList.isEmpty && decide (n = 0) && decide (n' = 0)
  else if k = 2 then (eqS ns ⟨#[]⟩ && eqS nl ⟨#[]⟩) && decide (s.size ≤ 200) && decide (n ≤ 1) && decide (n' = 0)
  else if k = 3 then (eqS ns ⟨#[]⟩ && eqS nl ⟨#[]⟩) && s.toList.isEmpty && decide (n ≤ 1) && decide (n' = 0)
  else if k = 4 then (eqS ns ⟨#[]⟩ && eqS nl ⟨#[]⟩) && s.toList.isEmpty && decide (n = 0) && decide (1 ≤ n')
  else false
mutual
def formC : Cls → Bool
  | .mk k ns nl s ex ar => formL ex && formL ar && nodeB k ns nl s ex.length ar.length
def formL : List Cls → Bool
  | [] => true
  | c :: l => formC c && formL l
end
theorem formL_step {l : List Cls} {i : Nat} {ch : Cls} (h : l[i]? = some ch) : formL (l.drop i) = (formC ch && formL (l.drop (i + 1))) := by
  obtain ⟨hi, rfl⟩ := List.getElem?_eq_some_iff.1 h
  rw [List.drop_eq_getElem_cons hi, formL]
theorem kind4 (k : Int) : (k == 1) = true ∨ ((k == 1) = false ∧ (k == 2) = true) ∨ ((k == 1) = false ∧ (k == 2) = false ∧ (k == 3) = true) ∨ ((k == 1) = false ∧ (k == 2) = false ∧ (k == 3) = false ∧ (k == 4) = true) ∨ ((k == 1) = false ∧ (k == 2) = false ∧ (k == 3) = false ∧ (k == 4) = false) := by
  cases (k == 1) <;> cases (k == 2) <;> cases (k == 3) <;> cases (k == 4) <;> simp

set_option maxHeartbeats 1000000 in
set_option maxRecDepth 100000 in
theorem valid_ref (a b : ByteArray) (w : World) :
    Calls Tryz.prog 12 #[.agg #[.string a, .string b]] w fun e w' => e = .returned (.bool (validB a b)) ∧ Below w.heap.size w w' := by
  go_enter Tryz.func12, Tryz.ntmps12
  go_wp2
  all_goals
    go_ret
    exact ⟨ret_bool (by unfold validB; rw [Bool.eq_iff_iff]; simp <;> omega), (Below.refl _ _).alloc (Nat.le_refl _) _⟩

set_option maxHeartbeats 1000000 in
set_option maxRecDepth 100000 in
theorem formed_any (c : Cls) : ∀ (cs : List Value) (w : World) (F : Nat → Prop), RepC w F c cs →
    Calls Tryz.prog 54 #[.agg cs.toArray] w fun e w' => e = .returned (.bool (formC c)) ∧ Below w.heap.size w w' := by
  induction c using Cls.ind with
  | _ k ns nl s ex ar ihe iha =>
    intro cs w F hr0
    obtain ⟨A, n, c, A', n', c', rfl, hl, hl', h1, h2⟩ := hr0.here.form
    have HE0 := Lib.hid ihe; have HA0 := Lib.hid iha; clear ihe iha hr0
    have heq := run_eql_name
    have HR : Hid (formC (.mk k ns nl s ex ar) = (formL ex && formL ar && nodeB k ns nl s n n')) := by rw [formC, h1.len, h2.len]; exact rfl
    obtain ⟨w1, hw1, hblk, hsz, hb1⟩ := alloc_facts w (.cells #[.int .i64 k, .string ns, .string nl, .string s, .slice A n c, .slice A' n' c'] 28)
    have HB := Lib.hid hblk; clear hblk
    go_enter Tryz.func54, Tryz.ntmps54
    go_wp2_with fail
    have HW := Lib.hid hw1; clear hw1
    go_loopw [3] (fun si wr => ∃ i : Nat, i ≤ n ∧ si = .int .i64 i ∧ Hid (formL ex = formL (ex.drop i)) ∧ Below w1.heap.size w1 wr)
      (fun si _ => n - (intOf si).toNat)
    case atStart => exact ⟨0, by omega, rfl, Lib.hid rfl, Below.refl _ _⟩
    case round =>
      obtain ⟨i, hi, rfl, HL, hbw⟩ := hrel
      obtain ⟨q0, q1, q2, q3, q4, q5⟩ := blk6 ((hbw.block _ hsz).trans HB.out)
      by_cases hlt : i < n
      · obtain ⟨b, off, ch, v0, v1, v2, v3, v4, v5, HX, hrc, p0, p1, p2, p3, p4, p5, hix⟩ := h1.round (hb1.seq hbw) hlt c
        have hd : decide (i < n) = true := by simp; omega
        go_wp2_with fail
        refine (HE0.out ch (mem_of_hid HX) _ _ _ hrc).mono ?_
        rintro e3 w3 ⟨rfl, hb3⟩
        cases hv : formC ch with
        | true =>
          have HV3 := Lib.hid hv; clear hv
          go_wp2_with fail
          go_roundw
          case rel => exact ⟨i + 1, by omega, by go_num, Lib.hid (by rw [HL.out, formL_step HX.out, HV3.out]; rfl), hbw.trans (hb3.mono hbw.size)⟩
          case measure => simp [intOf]; omega
        | false =>
          have HV3 := Lib.hid hv; clear hv
          go_wp2_with fail
          go_ret
          exact ⟨ret_bool (by rw [HR.out, HL.out, formL_step HX.out, HV3.out]; simp), (hb1.seq hbw).trans (hb3.mono (hb1.seq hbw).size)⟩
      · have hd : decide (i < n) = false := by simp; omega
        have HE : Hid (formL ex = true) := by have h := HL.out; rw [List.drop_eq_nil_of_le (by have := h1.len; omega)] at h; exact h
        go_wp2_with fail
        go_loopw [4] (fun si wr => ∃ i : Nat, i ≤ n' ∧ si = .int .i64 i ∧ Hid (formL ar = formL (ar.drop i)) ∧ Below w1.heap.size w1 wr)
          (fun si _ => n' - (intOf si).toNat)
        case atStart => exact ⟨0, by omega, rfl, Lib.hid rfl, hbw⟩
        case round =>
          obtain ⟨i, hi, rfl, HL, hbw⟩ := hrel
          obtain ⟨q0, q1, q2, q3, q4, q5⟩ := blk6 ((hbw.block _ hsz).trans HB.out)
          by_cases hlt : i < n'
          · obtain ⟨b, off, ch, v0, v1, v2, v3, v4, v5, HX, hrc, p0, p1, p2, p3, p4, p5, hix⟩ := h2.round (hb1.seq hbw) hlt c'
            have hd : decide (i < n') = true := by simp; omega
            go_wp2_with fail
            refine (HA0.out ch (mem_of_hid HX) _ _ _ hrc).mono ?_
            rintro e3 w3 ⟨rfl, hb3⟩
            cases hv : formC ch with
            | true =>
              have HV3 := Lib.hid hv; clear hv
              go_wp2_with fail
              go_roundw
              case rel => exact ⟨i + 1, by omega, by go_num, Lib.hid (by rw [HL.out, formL_step HX.out, HV3.out]; rfl), hbw.trans (hb3.mono hbw.size)⟩
              case measure => simp [intOf]; omega
            | false =>
              have HV3 := Lib.hid hv; clear hv
              go_wp2_with fail
              go_ret
              exact ⟨ret_bool (by rw [HR.out, HL.out, formL_step HX.out, HV3.out]; simp), (hb1.seq hbw).trans (hb3.mono (hb1.seq hbw).size)⟩
          · have hd : decide (i < n') = false := by simp; omega
            have HE1 : Hid (formL ar = true) := by have h := HL.out; rw [List.drop_eq_nil_of_le (by have := h2.len; omega)] at h; exact h
            rcases kind4 k with hk | ⟨hk, hk2⟩ | ⟨hk, hk2, hk3⟩ | ⟨hk, hk2, hk3, hk4⟩ | ⟨hk, hk2, hk3, hk4⟩
            · have HN : Hid (nodeB k ns nl s n n' = (validB ns nl && s.toList.isEmpty && decide (n = 0) && decide (n' = 0))) := by unfold nodeB; rw [if_pos (by simpa using hk)]; exact rfl
              go_wp2_with fail
              refine (valid_ref _ _ _).mono ?_
              rintro e3 w3 ⟨rfl, hb3⟩
              have hbb := (hb1.seq hbw).seq hb3
              obtain ⟨q0, q1, q2, q3, q4, q5⟩ := blk6 (((hbw.trans (hb3.mono hbw.size)).block _ hsz).trans HB.out)
              cases hv : validB ns nl with
              | false =>
                have HV3 := Lib.hid hv; clear hv
                go_wp2_with fail
                go_ret
                exact ⟨ret_bool (by rw [HR.out, HE.out, HE1.out, HN.out, HV3.out]; rfl), hbb⟩
              | true =>
                have HV3 := Lib.hid hv; clear hv
                go_wp2_with fail
                all_goals
                  go_ret
                  exact ⟨ret_bool (by rw [HR.out, HE.out, HE1.out, HN.out, HV3.out, Bool.eq_iff_iff]; simp [*] <;> first | omega | (intros; omega) | (intros; simp_all)), hbb⟩
            · have HN : Hid (nodeB k ns nl s n n' = ((eqS ns ⟨#[]⟩ && eqS nl ⟨#[]⟩) && decide (s.size ≤ 200) && decide (n ≤ 1) && decide (n' = 0))) := by unfold nodeB; rw [if_neg (by simpa using hk), if_pos (by simpa using hk2)]; exact rfl
              go_wp2_with fail
              all_goals
                go_ret
                exact ⟨ret_bool (by rw [HR.out, HE.out, HE1.out, HN.out, Bool.eq_iff_iff]; simp [*] <;> first | omega | (intros; omega) | (intros; simp_all)), hb1.seq hbw⟩
            · have HN : Hid (nodeB k ns nl s n n' = ((eqS ns ⟨#[]⟩ && eqS nl ⟨#[]⟩) && s.toList.isEmpty && decide (n ≤ 1) && decide (n' = 0))) := by unfold nodeB; rw [if_neg (by simpa using hk), if_neg (by simpa using hk2), if_pos (by simpa using hk3)]; exact rfl
              go_wp2_with fail
              all_goals
                go_ret
                exact ⟨ret_bool (by rw [HR.out, HE.out, HE1.out, HN.out, Bool.eq_iff_iff]; simp [*] <;> first | omega | (intros; omega) | (intros; simp_all)), hb1.seq hbw⟩
            · have HN : Hid (nodeB k ns nl s n n' = ((eqS ns ⟨#[]⟩ && eqS nl ⟨#[]⟩) && s.toList.isEmpty && decide (n = 0) && decide (1 ≤ n'))) := by unfold nodeB; rw [if_neg (by simpa using hk), if_neg (by simpa using hk2), if_neg (by simpa using hk3), if_pos (by simpa using hk4)]; exact rfl
              go_wp2_with fail
              all_goals
                go_ret
                exact ⟨ret_bool (by rw [HR.out, HE.out, HE1.out, HN.out, Bool.eq_iff_iff]; simp [*] <;> first | omega | (intros; omega) | (intros; simp_all)), hb1.seq hbw⟩
            · have HN : Hid (nodeB k ns nl s n n' = false) := by unfold nodeB; rw [if_neg (by simpa using hk), if_neg (by simpa using hk2), if_neg (by simpa using hk3), if_neg (by simpa using hk4)]; exact rfl
              go_wp2_with fail
              go_ret
              exact ⟨ret_bool (by rw [HR.out, HN.out]; simp), hb1.seq hbw⟩
end Go.Proofs.YtfildbkkmnfekaaGreatDoor
