/- sameCells of two rows that hold the same cells. The reference's Cells. -/
import Derived.Test.YtfildbkkmnfekaaGreatDoorCelP
import Derived.Test.YtfildbkkmnfekaaGreatDoorSince
import Derived.Test.YtfildbkkmnfekaaGreatDoorCelA
import Derived.WalkKit
import Derived.WalkSpells
import Derived.WalkLawsBesides
import Derived.Lib.Hide
import Derived.Deep.QuietTactic
import Derived.BigQuiet
import Derived.StillTailTactics
import Derived.Laws.EntriesVeiled
import Derived.Deep.RegionHeld3
import Derived.Deep.AppendLies
namespace Go.Proofs.YtfildbkkmnfekaaGreatDoor
open Go.RowKit

/-- A row of cells. -/
def RowK (w : World) (F : Nat → Prop) (l : List (Nm × List Bool)) (A : Option Addr) (n : Nat) : Prop :=
  n = l.length ∧ (0 < n → ∃ b off, A = some ⟨b, off, none⟩ ∧ F b ∧ RepRow w F 3 (l.map cellD) b off)
theorem cellD_row {w : World} {F : Nat → Prop} {o : Nm × List Bool} {cs : List Value} (h : RepCs w F (cellD o) cs) : ∃ A n c, cs = [.string o.1.1, .string o.1.2, .slice A n c] ∧ n < 2000000000000 ∧ RowV w F 1 boolV o.2 A n := by
  unfold cellD at h
  simp only [RepCs.cons_iff, RepCs.nil_iff, RepV.val_iff, RepV.sl_iff, List.length_map] at h
  obtain ⟨_, _, rfl, rfl, _, _, rfl, rfl, _, _, rfl, ⟨A, c, rfl, hn, hr⟩, rfl⟩ := h
  refine ⟨A, _, c, rfl, hn, rfl, fun hp => ?_⟩
  obtain ⟨b, off, hA, hb, hrow⟩ := hr hp
  refine ⟨b, off, hA, hb, fun i x hx => ?_⟩
  obtain ⟨cs, h1, h2⟩ := hrow.get i [.val (.bool x)] (by rw [List.getElem?_map, hx]; rfl)
  simp only [RepCs.cons_iff, RepCs.nil_iff, RepV.val_iff] at h2
  obtain ⟨_, _, rfl, rfl, rfl⟩ := h2
  exact h1
theorem RowK.cell {w : World} {F : Nat → Prop} {l : List (Nm × List Bool)} {A : Option Addr} {n : Nat} (h : RowK w F l A n) {i : Nat} (hi : i < n) (c : Nat) :
    ∃ b off o B m d, Hid (l[i]? = some o) ∧ m < 2000000000000 ∧ RowV w F 1 boolV o.2 B m ∧ w.cell? ⟨b, off + i * 3, none⟩ = some (.string o.1.1) ∧ w.cell? ⟨b, off + i * 3 + 1, none⟩ = some (.string o.1.2) ∧ w.cell? ⟨b, off + i * 3 + 2, none⟩ = some (.slice B m d) ∧
      ∀ W, (Instr.indexAt 29 (.slice A n c) (.int .i64 (i : Int))).run Tryz.prog W = .ok (.pointer (some ⟨b, off + i * 3, none⟩)) W := by
  obtain ⟨hn, h⟩ := h
  obtain ⟨b, off, hA, _, hr⟩ := h (by omega)
  have hx : l[i]? = some (l[i]'(by omega)) := List.getElem?_eq_getElem (by omega)
  obtain ⟨cs, h1, h2⟩ := hr.get i (cellD (l[i]'(by omega))) (by rw [List.getElem?_map, hx]; rfl)
  obtain ⟨B, m, d, rfl, hm, hv⟩ := cellD_row h2
  exact ⟨b, off, _, B, m, d, Lib.hid hx, hm, hv, h1 0 _ rfl, h1 1 _ rfl, h1 2 _ rfl, run_index_at (P := Tryz.prog) 29 39 3 Tryz.underlying29 (fun w => by kernel_rfl) hA n c i hi⟩
theorem RowK.keep {w w' : World} {F F' : Nat → Prop} {l : List (Nm × List Bool)} {A : Option Addr} {n : Nat} (h : RowK w F l A n) (hF : ∀ b, F b → F' b ∧ w'.heap[b]? = w.heap[b]?) : RowK w' F' l A n := by
  refine ⟨h.1, fun hp => ?_⟩
  obtain ⟨b, off, hA, hb, hr⟩ := h.2 hp
  exact ⟨b, off, hA, (hF b hb).1, RepRow.keep hF _ _ _ _ (hF b hb).2 hr⟩
theorem RowK.below {w w' : World} {B : Nat} {l : List (Nm × List Bool)} {A : Option Addr} {n : Nat} (h : RowK w (· < B) l A n) (hb : Below B w w') : RowK w' (· < B) l A n := h.keep fun b hb' => ⟨hb', hb.block b hb'⟩
theorem eqBs_refl : ∀ l : List Bool, eqBs l l = true
  | [] => rfl
  | b :: l => by simp [eqBs, eqBs_refl l]
theorem len_eq' {l : List (Nm × List Bool)} {n m : Nat} (h : n = l.length) (h' : m = l.length) : n = m := by omega
set_option maxHeartbeats 1000000 in
set_option maxRecDepth 100000 in
theorem sameCells_eq (l : List (Nm × List Bool)) (A A' : Option Addr) (n n' c c' : Nat) (w : World) (hrow : RowK w (· < w.heap.size) l A n) (hrow' : RowK w (· < w.heap.size) l A' n') (hn : n < 2000000000000) :
    Calls Tryz.prog 11 #[.slice A n c, .slice A' n' c'] w fun e w' => e = .returned (.bool true) ∧ Below w.heap.size w w' := by
  obtain rfl : n = n' := len_eq' hrow.1 hrow'.1
  have hbe : (!((n : Int) == (n : Int))) = false := by simp
  go_enter Tryz.func11, Tryz.ntmps11
  go_wp2_with fail
  go_loopw [5] (fun si wr => ∃ i : Nat, i ≤ n ∧ si = .int .i64 i ∧ Below w.heap.size w wr)
    (fun si _ => n - (intOf si).toNat)
  case atStart => exact ⟨0, by omega, rfl, Below.refl _ _⟩
  case round =>
    obtain ⟨i, hi, rfl, hbw⟩ := hrel
    by_cases hlt : i < n
    · obtain ⟨b1, off1, o, B1, m1, d1, HX, hm1, hv1, p0, p1, p2, hix⟩ := (hrow.below hbw).cell hlt c
      obtain ⟨b2, off2, o2, B2, m2, d2, HY, hm2, hv2, r0, r1, r2, hiy⟩ := (hrow'.below hbw).cell hlt c'
      obtain rfl : o = o2 := by have h1 := HX.out; rw [HY.out] at h1; exact (Option.some.inj h1).symm
      obtain ⟨⟨s1, s2⟩, bs⟩ := o
      have hd : decide (i < n) = true := by simp; omega
      obtain rfl : m1 = m2 := hv1.1.trans hv2.1.symm
      have hq : ∀ W, (binOp .neq 24 (.agg #[.string s1, .string s2]) (.agg #[.string s1, .string s2])).run Tryz.prog W = .ok (.bool false) W := fun W => by rw [run_neq_name, eqS_refl, eqS_refl]; rfl
      have H50 : Hid (∀ p : Since wr, Calls Tryz.prog 50 #[.slice B1 m1 d1, .slice B2 m1 d2] p.wld fun e w' => e = .returned (.bool true) ∧ Below p.wld.heap.size p.wld w') := Lib.hid fun p => by
        have h := bools_any bs bs B1 B2 m1 m1 d1 d2 p.wld _ (Since.row hv1 boolV_ne p) (Since.row hv2 boolV_ne p) hm1
        rw [eqBs_refl] at h
        simpa using h
      have P0 := Since.cell p0; have P1 := Since.cell p1; have P2 := Since.cell p2
      have R0 := Since.cell r0; have R1 := Since.cell r1; have R2 := Since.cell r2
      clear HX HY hv1 hv2
      go_wp2_with fail
      refine wp_region_since (by kernel_rfl) (by kernel_rfl) ?_
      repeat (quiet_step (first | (go_at_call_of 50 (Value.slice B1 m1 d1); exact since_of (H50.out _))))
      refine wpQuiet_nil ?_
      intro wq hq2
      have hbq := since_below hq2
      clear hq2
      go_wp2_with fail
      go_roundw
      case rel => exact ⟨i + 1, by omega, by go_num, hbw.trans (hbq.mono hbw.size)⟩
      case measure => simp [intOf]; omega
    · have hd : decide (i < n) = false := by simp; omega
      go_wp2_with fail
      go_ret
      exact ⟨rfl, hbw⟩
end Go.Proofs.YtfildbkkmnfekaaGreatDoor
namespace Go.Proofs.YtfildbkkmnfekaaGreatDoor
open Go.RowKit
theorem chkL_dropR {l : List Cls} {i : Nat} {c : Cls} (h : l[i]? = some c) : chkL (l.drop i) = if chkR c = 0 then chkL (l.drop (i + 1)) else chkR c := by
  rw [chkL_drop h, chk_eq]
theorem cellsR_big {l : List Cls} (h : 100 < l.length) : cellsR l = ([], 3) := by unfold cellsR; rw [if_pos h]
theorem cellsR_bad {l : List Cls} (h : ¬ 100 < l.length) (he : chkL l ≠ 0) : cellsR l = ([], chkL l) := by unfold cellsR; rw [if_neg h, if_neg he]
theorem cellsR_good {l : List Cls} (h : ¬ 100 < l.length) (he : chkL l = 0) : cellsR l = (cellsF (qOf l) (candN (addL l ([], [])) []) [], 0) := by unfold cellsR; rw [if_neg h, if_pos he]
/-- append of one Bool, at a step of a region that draws. -/
theorem step_bool {w : World} {ops : Array Oper} {o : Oper} {a : Act} {K : Act → World → Prop} {Q : Exit → Act → World → Prop} {E : Prop} (hgd : o.guard = none) (s x : Operand)
    (ho : o.op = .call { callee := .builtin .append, args := #[s, x], argTypes := #[37, 37] }) (base : Nat) (q : List Bool) (u : Bool) (v : Value) (hs : a.eval s = v) (hown : OwnV w base 4 1 boolV q v) (g cap : Nat)
    (hx : a.eval x = .slice (some ⟨g, 0, none⟩) 1 cap) {fr : Nat × Nat} (hg : w.heap[g]? = some (.cells #[.bool u] 4 fr)) (hlen : q.length < 1000) (hbase : base ≤ w.heap.size)
    (h : ∀ v' w', OwnV w' base 4 1 boolV (q ++ [u]) v' → Below base w w' → K (a.put o.dst v') w') :
    if Region.wanted o (yielded ops a.tmps) = true then Oper.wp Tryz.prog o a w K Q else E := by
  obtain ⟨ht, i, hi, hz, hsz, hby, hzs, h0, -⟩ := tyB
  refine step_append_lies w hgd s x 37 ho base 4 i _ 1 1 ht hi hz hsz hby hzs h0 v q.length (q.flatMap boolV) hs hown ⟨g, 0, none⟩ 1 cap [.bool u] hx rfl (World.news_of_block hg) (by simp [Value.oneCell']) (by omega) (by unfold maxLen; omega) (by omega) hbase _ rfl ?_
  intro g' cap' w' h1 h2 _ _
  refine h _ w' ?_ (grown_below hown hbase h2)
  unfold OwnV
  rw [List.length_append, List.flatMap_append]
  exact h1
/-- append of one cell, laid in a block of its own. -/
theorem wpList_cell {ops : Array Oper} {rest : List Oper} {o : Oper} {a : Act} {Q : Exit → Act → World → Prop} {w : World} (hgd : o.guard = none) (s x : Operand)
    (ho : o.op = .call { callee := .builtin .append, args := #[s, x], argTypes := #[29, 29] }) (base : Nat) (out : List (Nm × List Bool)) (e : Nm × List Bool) (cs : List Value) (v : Value) (hs : a.eval s = v) (hown : OwnD w base 39 3 (out.map cellD) v)
    (g cap : Nat) (hx : a.eval x = .slice (some ⟨g, 0, none⟩) 1 cap) {fr : Nat × Nat} (hg : w.heap[g]? = some (.cells cs.toArray 39 fr)) (hcs : cs.length = 3 ∧ ∀ u ∈ cs, u.oneCell' = true)
    (hrep : RepCs w (fun b => base ≤ b ∧ b < w.heap.size ∧ some b ≠ v.ownBlock) (cellD e) cs) (hnm : out.length + 1 < 4000000) (hbase : base ≤ w.heap.size)
    (h : ∀ v' w', OwnD w' base 39 3 ((out ++ [e]).map cellD) v' → Below base w w' → wpList Tryz.prog ops Q rest (a.put o.dst v') w') : wpList Tryz.prog ops Q (o :: rest) a w := by
  refine wpList_ownD hgd s x 29 ho tyK base _ [cellD e] [⟨cs, hcs⟩] v hs hown (some ⟨g, 0, none⟩) 1 cap hx ?_ rfl rfl ?_ (by simpa using hnm) hbase (by simpa only [List.map_append, List.map_cons, List.map_nil] using h)
  · have := Src.block (sz := 3) (m := 1) (vs := cs) hg hcs.1
    simpa [cN] using this
  · intro i d y hd hy
    match i, hd, hy with
    | 0, hd, hy =>
      obtain rfl : cellD e = d := by simpa using hd
      obtain rfl : (⟨cs, hcs⟩ : CellsN 3) = y := by simpa using hy
      exact hrep
theorem qOf_take {l : List Cls} {i : Nat} {ch : Cls} {u : Bool} {a b : ByteArray} (h : l[i]? = some ch) (hu : inC ch a b = u) : (qOf l (a, b)).take (i + 1) = (qOf l (a, b)).take i ++ [u] := by
  have h1 : (qOf l (a, b))[i]? = some u := by unfold qOf; rw [List.getElem?_map, h, ← hu]; rfl
  rw [List.take_add_one, h1]; rfl
theorem qOf_len (l : List Cls) (x : Nm) : (qOf l x).length = l.length := by unfold qOf; rw [List.length_map]
/-- What Cells gathers are names with their own answers. -/
theorem cellsF_own (q : Nm → List Bool) : ∀ (L : List Nm) (out : List (Nm × List Bool)), (∀ o ∈ out, o.2 = q o.1) → ∀ o ∈ cellsF q L out, o.2 = q o.1
  | [], out, h => by rw [cellsF]; exact h
  | x :: L, out, h => by
    rw [cellsF]
    refine cellsF_own q L _ ?_
    split
    · exact h
    · intro o ho
      rcases List.mem_append.1 ho with ho | ho
      · exact h o ho
      · obtain rfl := List.mem_singleton.1 ho; rfl
theorem any_take {α : Type} {p : α → Bool} {l : List α} {i : Nat} {o : α} (h : l[i]? = some o) : (l.take (i + 1)).any p = ((l.take i).any p || p o) := by
  rw [List.take_add_one, h, List.any_append]; simp
theorem eqBs_beq : ∀ (a b : List Bool), a.length = b.length → eqBs a b = (a == b)
  | [], [], _ => rfl
  | x :: a, y :: b, h => by
    have := eqBs_beq a b (by simpa using h)
    cases x <;> cases y <;> simp [eqBs, this]
set_option maxHeartbeats 4000000 in
set_option maxRecDepth 100000 in
theorem refCells_any (l : List Cls) (A : Option Addr) (n c : Nat) (w : World) (F : Nat → Prop) (hrow0 : RowL w F l A n) (hn : n < 2000000) :
    Calls Tryz.prog 10 #[.slice A n c] w (CellsPost (cellsR l) w) := by
  have hro := hrow0.here
  have HNL := Lib.hid hro.1
  have HRO := Lib.hid hro
  by_cases hbig : 100 < n
  · have hd : decide ((100 : Int) < (n : Int)) = true := by simp; omega
    have HX : Hid (cellsR l = ([], 3)) := Lib.hid (cellsR_big (by rw [← HNL.out]; exact hbig))
    clear hro hrow0 hbig
    go_enter Tryz.func10, Tryz.ntmps10
    go_wp2_with fail
    (try simp only [Exit.inBlock, Exit.then])
    refine bodyPost_ret (v := .tuple #[.slice none 0 0, .int .i64 3]) (by simp [results, Tryz.results10, go_sem]) rfl ?_
    rw [HX.out]
    exact cellsPost_nil (Below.refl _ _)
  · have hd : decide ((100 : Int) < (n : Int)) = false := by simp; omega
    have HSM : Hid (¬ 100 < l.length) := Lib.hid (by rw [← HNL.out]; exact hbig)
    clear hro hrow0
    have hn100 : n ≤ 100 := by omega
    clear hbig
    go_enter Tryz.func10, Tryz.ntmps10
    go_wp2_with fail
    go_loopw [4] (fun s4 wr => ∃ i : Nat, i ≤ n ∧ s4 = .int .i64 i ∧ Hid (chkL l = chkL (l.drop i)) ∧ Below w.heap.size w wr)
      (fun s4 _ => n - (intOf s4).toNat)
    case atStart => exact ⟨0, by omega, rfl, Lib.hid rfl, Below.refl _ _⟩
    case round =>
      obtain ⟨i, hi, rfl, HL, hbw⟩ := hrel
      by_cases hlt : i < n
      · obtain ⟨b', off, ch, v0, v1, v2, v3, v4, v5, HX, hrc, z0, z1, z2, z3, z4, z5, hix⟩ := HRO.out.roundB hbw hlt c
        have hd2 : decide (i < n) = true := by simp; omega
        obtain ⟨k3, ns3, nl3, s3, A3, n3, c03, A3', n3', c03', hcs⟩ := hrc.cells
        simp only [List.cons.injEq, and_true] at hcs
        obtain ⟨rfl, rfl, rfl, rfl, rfl, rfl⟩ := hcs
        obtain ⟨v, hv⟩ : ∃ v, chkR ch = v := ⟨_, rfl⟩
        have HV := Lib.hid hv
        have HD := Lib.hid (chkL_dropR HX.out)
        have H16 : Hid (Calls Tryz.prog 16 #[.agg #[.int .i64 k3, .string ns3, .string nl3, .string s3, .slice A3 n3 c03, .slice A3' n3' c03']] wr fun e w' => e = .returned (.int .i64 v) ∧ Below wr.heap.size wr w') := Lib.hid (refcheck_val ch _ wr _ hrc hv)
        clear hv hrc
        go_wp2_with fail
        refine H16.out.mono ?_
        rintro e w2 ⟨rfl, hb2⟩
        by_cases h0 : v = 0
        · have hd0 : (v != 0) = false := by simp [h0]
          have HV0 := Lib.hid h0
          clear h0
          go_wp2_with fail
          go_roundw
          case rel => exact ⟨i + 1, by omega, by go_num, Lib.hid (by rw [HL.out, HD.out, HV.out, if_pos HV0.out]), hbw.trans (hb2.mono hbw.size)⟩
          case measure => simp [intOf]; omega
        · have hd0 : (v != 0) = true := by simpa using h0
          have HXX : Hid (cellsR l = ([], v)) := Lib.hid (by
            have h1 : chkL l = v := by rw [HL.out, HD.out, HV.out, if_neg h0]
            rw [cellsR_bad HSM.out (by rw [h1]; exact h0), h1])
          clear h0
          go_wp2_with fail
          (try simp only [Exit.inBlock, Exit.then])
          refine bodyPost_ret (v := .tuple #[.slice none 0 0, .int .i64 v]) (by simp [results, Tryz.results10, go_sem]) rfl ?_
          rw [HXX.out]
          exact cellsPost_nil (hbw.trans (hb2.mono hbw.size))
      · have hd2 : decide (i < n) = false := by simp; omega
        have HE : Hid (chkL l = 0) := Lib.hid (by rw [HL.out, List.drop_of_length_le (by have := HNL.out; omega)]; rfl)
        clear HL
        have HK := Lib.hid (chkL_forms HE.out)
        obtain ⟨L, hL⟩ : ∃ L, candN (addL l ([], [])) [] = L := ⟨_, rfl⟩
        have HX : Hid (cellsR l = (cellsF (qOf l) L [], 0)) := Lib.hid (by rw [← hL]; exact cellsR_good HSM.out HE.out)
        have H47 : Hid (Calls Tryz.prog 47 #[.slice A n c, .slice none 0 0] wr fun e w' => ∃ v, e = .returned v ∧ OwnV w' wr.heap.size 24 2 nmV L v ∧ Below wr.heap.size wr w') := Lib.hid (by rw [← hL]; exact refcand_any l A n c [] none 0 0 wr _ (fun _ => True) (HRO.out.below hbw) (RowV.nil _ _ _ _ _) (by omega) (by omega) (by have := HK.out.2; have := HNL.out; omega))
        have HLL : Hid (L.length < 50000) := Lib.hid (by rw [← hL, candN_len]; have := addL_len l ([], []); have := HK.out.2; have := HNL.out; simp at *; omega)
        clear hL
        go_wp2_with fail
        refine H47.out.mono ?_
        rintro e w4 ⟨v, rfl, hov, hb4⟩
        obtain ⟨B, d, rfl, hrow, hcap, hcm⟩ := hov.row nm_len (by decide)
        have HROW := Lib.hid (hrow.here nmV_ne)
        have hb14 := hbw.trans (hb4.mono hbw.size)
        obtain ⟨nn, hnn⟩ : ∃ nn, L.length = nn := ⟨_, rfl⟩
        have HNN := Lib.hid hnn
        rw [hnn] at hcap HROW ⊢
        clear hov hrow hnn
        go_wp2_with fail
        go_loopw [6, 8] (fun s6 s8 wo => ∃ j : Nat, j ≤ nn ∧ s8 = .int .i64 j ∧ OwnD wo w4.heap.size 39 3 ((cellsF (qOf l) (L.take j) []).map cellD) s6 ∧ Below w4.heap.size w4 wo)
          (fun _ s8 _ => nn - (intOf s8).toNat)
        case atStart => exact ⟨0, by omega, rfl, OwnD.nil _ _ _ _, Below.refl _ _⟩
        case round =>
          obtain ⟨j, hj, rfl, ho6, hbo⟩ := hrel
          rename World => wo
          have hb1o := hb14.trans (hbo.mono hb14.size)
          by_cases hjl : j < nn
          · obtain ⟨b5, off5, x1, x2, HXj, y0, y1, hiy⟩ := (HROW.out.below hbo).name hjl d
            have hd5 : decide (j < nn) = true := by simp; omega
            obtain ⟨A6, c6, rfl, -⟩ := OwnD.row ho6 (by decide) (F := fun _ => True) (fun _ _ _ => trivial)
            rw [List.length_map] at ho6 ⊢
            have HO6 := Lib.hid ho6
            clear ho6
            go_wp2_with fail
            go_loopw [9, 10] (fun s9 s10 wi => ∃ i : Nat, i ≤ n ∧ s10 = .int .i64 i ∧ OwnV wi wo.heap.size 4 1 boolV ((qOf l (x1, x2)).take i) s9 ∧ Below wo.heap.size wo wi)
              (fun _ s10 _ => n - (intOf s10).toNat)
            case atStart => exact ⟨0, by omega, rfl, by rw [List.take_zero]; exact OwnV.nil _ _ _ _ _, Below.refl _ _⟩
            case round =>
              obtain ⟨i2, hi2, rfl, ho9, hbi⟩ := hrel
              rename World => wi
              have hb1i := hb1o.trans (hbi.mono hb1o.size)
              by_cases hil : i2 < n
              · obtain ⟨b', off, ch, v0, v1, v2, v3, v4, v5, HX3, hrc, z0, z1, z2, z3, z4, z5, hix⟩ := HRO.out.roundB hb1o hil c
                have hd6 : decide (i2 < n) = true := by simp; omega
                obtain ⟨k3, ns3, nl3, s3, A3, n3, c03, A3', n3', c03', hcs⟩ := hrc.cells
                simp only [List.cons.injEq, and_true] at hcs
                obtain ⟨rfl, rfl, rfl, rfl, rfl, rfl⟩ := hcs
                obtain ⟨u, hu⟩ : ∃ u, inC ch x1 x2 = u := ⟨_, rfl⟩
                have HU := Lib.hid hu
                obtain ⟨A9, c9, rfl, -⟩ := ho9.row bool_len (by decide)
                have hl9 : ((qOf l (x1, x2)).take i2).length = i2 := by rw [List.length_take]; unfold qOf; rw [List.length_map, ← HNL.out]; omega
                rw [hl9] at ho9 ⊢
                have HO9 := Lib.hid ho9
                have HSB : Hid (∀ W, Below wo.heap.size wo W → (Below wo.heap.size wo W ∧ W.cell? ⟨b', off + i2 * 6, none⟩ = some (.int .i64 k3) ∧ W.cell? ⟨b', off + i2 * 6 + 1, none⟩ = some (.string ns3) ∧ W.cell? ⟨b', off + i2 * 6 + 2, none⟩ = some (.string nl3) ∧ W.cell? ⟨b', off + i2 * 6 + 3, none⟩ = some (.string s3) ∧ W.cell? ⟨b', off + i2 * 6 + 4, none⟩ = some (.slice A3 n3 c03) ∧ W.cell? ⟨b', off + i2 * 6 + 5, none⟩ = some (.slice A3' n3' c03') ∧ W.cell? ⟨b5, off5 + j * 2, none⟩ = some (.string x1) ∧ W.cell? ⟨b5, off5 + j * 2 + 1, none⟩ = some (.string x2))) := Lib.hid fun W hb => by
                  have K : ∀ {a v}, wo.cell? a = some v → W.cell? a = some v := fun h => (hb.cell (World.block_lt_of_cell? wo _ h)).trans h
                  exact ⟨hb, K z0, K z1, K z2, K z3, K z4, K z5, K y0, K y1⟩
                have hbid : Below wo.heap.size wo wi.drew := hbi.trans ⟨rfl, rfl, rfl, Nat.le_refl _, fun _ _ => rfl⟩
                have C48 : Hid (Calls Tryz.prog 48 #[.agg #[.int .i64 k3, .string ns3, .string nl3, .string s3, .slice A3 n3 c03, .slice A3' n3' c03'], .agg #[.string x1, .string x2]] wi.drew fun e w' => e = .returned (.bool u) ∧ Below wi.drew.heap.size wi.drew w') := Lib.hid (in_val x1 x2 ch _ wi.drew _ (hrc.below (hbid.mono hb1o.size)) HU.out)
                have HL9 := Lib.hid hl9
                have HID := Lib.hid hbid
                clear hu hrc ho9 hl9 hbid z0 z1 z2 z3 z4 z5
                go_wp2_with fail
                go_region_held3 (fun W => Below wo.heap.size wo W ∧ W.cell? ⟨b', off + i2 * 6, none⟩ = some (.int .i64 k3) ∧ W.cell? ⟨b', off + i2 * 6 + 1, none⟩ = some (.string ns3) ∧ W.cell? ⟨b', off + i2 * 6 + 2, none⟩ = some (.string nl3) ∧ W.cell? ⟨b', off + i2 * 6 + 3, none⟩ = some (.string s3) ∧ W.cell? ⟨b', off + i2 * 6 + 4, none⟩ = some (.slice A3 n3 c03) ∧ W.cell? ⟨b', off + i2 * 6 + 5, none⟩ = some (.slice A3' n3' c03') ∧ W.cell? ⟨b5, off5 + j * 2, none⟩ = some (.string x1) ∧ W.cell? ⟨b5, off5 + j * 2 + 1, none⟩ = some (.string x2))
                  ((refine HSB.out _ ?_; first
                    | exact HID.out
                    | exact hb7
                    | exact hb6
                    | exact hb6.alloc hb6.size _))
                  (first
                    | (go_at_call 48; refine C48.out.mono ?_; rintro e w6 ⟨rfl, hb6'⟩; have hb6 : Below wo.heap.size wo w6 := HID.out.trans (hb6'.mono HID.out.size))
                    | (refine step_bool (by rfl) _ _ (by rfl) wo.heap.size _ u _ (by rfl) (HO9.out.keep (Below.alloc (Below.drew1 hb6') hb6'.size _)) w6.heap.size 1 (by rfl) (heap_alloc_new w6 _) (by rw [HL9.out]; omega) (by simp; exact Nat.le_succ_of_le hb6.size) ?_; intro v7 w7 ho7 hb7'; have hb7 : Below wo.heap.size wo w7 := (hb6.alloc hb6.size _).trans hb7'))
                have HO7 := Lib.hid ho7; have HB7 := Lib.hid hb7
                clear ho7 hb7 hb7' hb6' hb6 y0 y1
                go_wp2_with fail
                go_roundw
                case rel => exact ⟨i2 + 1, by omega, by go_num, by rw [qOf_take HX3.out HU.out]; exact HO7.out, HB7.out⟩
                case measure => simp [intOf]; omega
              · have hd6 : decide (i2 < n) = false := by simp; omega
                have hin : i2 = n := by omega
                rw [hin, List.take_of_length_le (by rw [qOf_len, HNL.out]; exact Nat.le_refl _)] at ho9
                obtain ⟨A9, c9, rfl, hrow9, -, -⟩ := ho9.row bool_len (by decide)
                have HR9 := Lib.hid hrow9
                have hq9 : (qOf l (x1, x2)).length = n := by rw [qOf_len, HNL.out]
                obtain ⟨q, hq⟩ : ∃ q, qOf l (x1, x2) = q := ⟨_, rfl⟩
                have HQ := Lib.hid hq
                rw [hq] at hq9 HR9
                rw [hq, hq9]
                rw [hq9] at HR9
                have HO6i := Lib.hid (HO6.out.keep hbi)
                have HQ9 := Lib.hid hq9
                clear ho9 hrow9 hq hq9 hin
                go_wp2_with fail
                obtain ⟨out, hout⟩ : ∃ out, cellsF (qOf l) (L.take j) [] = out := ⟨_, rfl⟩
                have HOWN : Hid (∀ o ∈ out, o.2.length = n) := Lib.hid (by rw [← hout]; intro o ho; rw [cellsF_own (qOf l) _ [] (fun _ h => by simp at h) o ho, qOf_len, HNL.out])
                have HOL : Hid (out.length < 60000) := Lib.hid (by
                  have h1 := cellsF_len (qOf l) (L.take j) []
                  rw [hout] at h1
                  have h2 := HLL.out
                  simp at h1
                  omega)
                have HOUT := Lib.hid hout
                rw [hout] at HO6i ⊢
                obtain ⟨nm, hnm⟩ : ∃ nm, out.length = nm := ⟨_, rfl⟩
                obtain ⟨A6', c6', e6, hr6, -, -⟩ := OwnD.row HO6i.out (by decide) (F := fun b => b < wi.heap.size) (fun b _ h => h)
                rw [List.length_map, hnm] at e6 hr6
                rw [hnm] at HO6i ⊢
                simp only [Value.slice.injEq, true_and] at e6
                obtain ⟨rfl, rfl⟩ := e6
                have HRK : Hid (RowK wi (· < wi.heap.size) out A6 nm) := Lib.hid ⟨hnm.symm, hr6⟩
                have HNM := Lib.hid hnm
                have hnmb : nm < 60000 := by have := HOL.out; omega
                clear hr6 hnm hout
                go_loopw [11, 12] (fun s11 s12 wx => ∃ m : Nat, m ≤ nm ∧ s12 = .int .i64 m ∧ s11 = .bool ((out.take m).any (fun o => o.2 == q)) ∧ Below wi.heap.size wi wx)
                  (fun _ s12 _ => nm - (intOf s12).toNat)
                case atStart => exact ⟨0, by omega, rfl, rfl, Below.refl _ _⟩
                case round =>
                  obtain ⟨m, hm, rfl, rfl, hbx⟩ := hrel
                  rename World => wx
                  by_cases hml : m < nm
                  · obtain ⟨b2, off2, o, B2, m2, d2, HXo, hm2, hv2, r0, r1, r2, hio⟩ := (HRK.out.below hbx).cell hml c6
                    have hd7 : decide (m < nm) = true := by simp; omega
                    have HAT := Lib.hid (any_take (p := fun o => o.2 == q) HXo.out)
                    obtain ⟨f0, hf0⟩ : ∃ f0, (out.take m).any (fun o => o.2 == q) = f0 := ⟨_, rfl⟩
                    rw [hf0] at HAT ⊢
                    obtain ⟨v2, hv⟩ : ∃ v2, (o.2 == q) = v2 := ⟨_, rfl⟩
                    rw [hv] at HAT
                    have hmn : m2 = n := by rw [hv2.1, HOWN.out o (List.mem_of_getElem? HXo.out)]
                    subst hmn
                    have H49 : Hid (Calls Tryz.prog 49 #[.slice B2 m2 d2, .slice A9 m2 c9] wx fun e w' => e = .returned (.bool v2) ∧ Below wx.heap.size wx w') := Lib.hid (by
                      have h := refbools_any o.2 q B2 A9 m2 m2 d2 c9 wx _ (hv2.here boolV_ne) (((HR9.out.here boolV_ne).below hbx).here boolV_ne) hm2 (Nat.le_refl _)
                      rw [eqBs_beq _ _ (by rw [HQ9.out, ← hv2.1]), hv] at h
                      exact h)
                    clear hf0 hv hv2
                    cases f0
                    · go_wp2_with fail
                      refine H49.out.mono ?_
                      rintro e w9 ⟨rfl, hb9⟩
                      go_wp2_with fail
                      go_roundw
                      case rel => exact ⟨m + 1, by omega, by go_num, by rw [HAT.out, Bool.false_or], hbx.trans (hb9.mono hbx.size)⟩
                      case measure => simp [intOf]; omega
                    · go_wp2_with fail
                      go_roundw
                      case rel => exact ⟨m + 1, by omega, by go_num, by rw [HAT.out, Bool.true_or], hbx⟩
                      case measure => simp [intOf]; omega
                  · have hd7 : decide (m < nm) = false := by simp; omega
                    rw [List.take_of_length_le (by rw [HNM.out]; omega)]
                    obtain ⟨fnd, hf⟩ : ∃ fnd, out.any (fun o => o.2 == q) = fnd := ⟨_, rfl⟩
                    rw [hf]
                    have HF := Lib.hid hf
                    clear hf
                    have hbox := hbi.trans (hbx.mono hbi.size)
                    have yx0 := (hbox.cell (World.block_lt_of_cell? wo _ y0)).trans y0
                    have yx1 := (hbox.cell (World.block_lt_of_cell? wo _ y1)).trans y1
                    have hnnb : nn < 50000 := by have := HLL.out; have := HNN.out; omega
                    have HO6' : Hid (OwnD wo w4.heap.size 39 3 (out.map cellD) (.slice A6 nm c6)) := Lib.hid (by have h := HO6.out; rw [HOUT.out, HNM.out] at h; exact h)
                    cases fnd
                    · have HSN : Hid (cellsF (qOf l) (L.take (j + 1)) [] = out ++ [((x1, x2), q)]) := Lib.hid (by rw [List.take_add_one, HXj.out]; show cellsF (qOf l) (L.take j ++ [(x1, x2)]) [] = _; rw [cellsF_snoc, HOUT.out, HQ.out, HF.out]; rfl)
                      obtain ⟨wz, hwz, SZ, hszz, hbz⟩ := alloc_facts wx (.cells #[.string x1, .string x2, .slice A9 n c9] 39)
                      have HSZ := Lib.hid SZ
                      have HOZ := Lib.hid (HO6i.out.keep (hbx.seq hbz))
                      have HBZ := Lib.hid (hbox.trans (hbz.mono hbox.size))
                      have hos := hbo.size
                      have his := hbi.size
                      have hxs := hbx.size
                      have HREP : Hid (RepCs wz (fun b => w4.heap.size ≤ b ∧ b < wz.heap.size ∧ some b ≠ (Value.slice A6 nm c6).ownBlock) (cellD ((x1, x2), q)) [.string x1, .string x2, .slice A9 n c9]) := Lib.hid (cellD_iff (HR9.out.keep (fun b hb => ⟨⟨by omega, by omega, fun e => by have := (HO6'.out.block b e).2; omega⟩, (hbx.seq hbz).block b hb.2⟩)) (by omega))
                      have HCS : Hid ([Value.string x1, .string x2, .slice A9 n c9].length = 3 ∧ ∀ u ∈ [Value.string x1, .string x2, .slice A9 n c9], u.oneCell' = true) := Lib.hid ⟨rfl, (by intro u hu; simp only [List.mem_cons, List.not_mem_nil, or_false] at hu; rcases hu with rfl | rfl | rfl <;> rfl)⟩
                      clear SZ
                      go_wp2_with
                        (at_builtin; go_loud (refine wpList_cell rfl (.tmp 74) (.tmp 81) rfl w4.heap.size out ((x1, x2), q) [.string x1, .string x2, .slice A9 n c9] _ rfl HOZ.out wx.heap.size 1 rfl HSZ.out HCS.out HREP.out (by have := HOL.out; omega) (by omega) ?_)
                         intro v10 w10 ho10 hb10)
                      have HO10 := Lib.hid ho10
                      have HB10 := Lib.hid hb10
                      go_roundw
                      case rel => exact ⟨j + 1, by omega, by go_num, by rw [HSN.out]; exact HO10.out, (hbo.trans (HBZ.out.mono hbo.size)).trans (HB10.out.mono (by omega))⟩
                      case measure => simp [intOf]; omega
                    · have HSN : Hid (cellsF (qOf l) (L.take (j + 1)) [] = out) := Lib.hid (by rw [List.take_add_one, HXj.out]; show cellsF (qOf l) (L.take j ++ [(x1, x2)]) [] = out; rw [cellsF_snoc, HOUT.out, HQ.out, if_pos HF.out])
                      have HO6x := Lib.hid (HO6i.out.keep hbx)
                      have HBX := Lib.hid (hbo.trans (hbox.mono hbo.size))
                      go_wp2_with fail
                      go_roundw
                      case rel => exact ⟨j + 1, by omega, by go_num, by rw [HSN.out]; exact HO6x.out, HBX.out⟩
                      case measure => simp [intOf]; omega
          · have hd5 : decide (j < nn) = false := by simp; omega
            have hjn : j = nn := by omega
            rw [hjn, List.take_of_length_le (by rw [HNN.out]; exact Nat.le_refl _)] at ho6
            obtain ⟨A6, c6, rfl, hr6, -, -⟩ := OwnD.row ho6 (by decide) (F := fun b => w4.heap.size ≤ b) (fun b hb _ => hb)
            rw [List.length_map] at hr6 ⊢
            have HR6 := Lib.hid hr6
            clear ho6 hr6 hjn
            go_wp2_with fail
            (try simp only [Exit.inBlock, Exit.then])
            refine bodyPost_ret (v := .tuple #[.slice A6 (cellsF (qOf l) L []).length c6, .int .i64 0]) (by simp [results, Tryz.results10, go_sem]) rfl ?_
            rw [HX.out]
            refine ⟨A6, _, c6, rfl, rfl, fun hp => ?_, hb1o⟩
            obtain ⟨b, off, h1, h2, h3⟩ := HR6.out hp
            have hs4 := hb14.size
            exact ⟨b, off, h1, by omega, h3.keep (fun b hb => ⟨by omega, rfl⟩) _ _ _ _ rfl⟩
end Go.Proofs.YtfildbkkmnfekaaGreatDoor
