/- Proved: for every input gabaritlaw01.NamesCells returns true, and its arguments read behind the call as they read before: that is: Cells is the reference's, and each name has the answers of exactly one cell. Conditions: those of the row: three tables of Go's library (math/bits.deBruijn32tab, deBruijn64tab, internal/strconv.uint64pow10) hold what their text lays. The walk of NamesCells. Reading a list of classes. -/
import Derived.Test.YtfildbkkmnfekaaGreatDoorOpnA
import Derived.Test.YtfildbkkmnfekaaGreatDoorCelM
import Derived.Test.YtfildbkkmnfekaaGreatDoorPlnS
import Derived.Test.YtfildbkkmnfekaaGreatDoorSetP
import Derived.Test.YtfildbkkmnfekaaGreatDoorShwA
import Derived.WideShapes
import Derived.WalkKit
import Derived.WalkSpells
import Derived.WalkLawsBesides
import Derived.BigGuardPart
import Derived.Lib.Hide
import Derived.Deep.QuietTactic
import Derived.BigQuiet
import Derived.StillTailTactics
import Derived.Deep.DeepCutAuto
import Derived.Deep.CutBlock
import Derived.Laws.EntriesVeiled
import Derived.ProofKit
import Derived.OpenShut
import Derived.Deep.DeepHandedRow
import Derived.Lib.LaidTab
import Derived.Carry
namespace Go.Proofs.YtfildbkkmnfekaaGreatDoor
open Go.ChangeShapes Go.WideShapes Go.ChangeAt Go.RowKit

theorem open_clss {P : Program} (Y : Lays P) {H : Type} {enc : TypeId × Value → H} {W : World} {base base' : Nat} {sp : Nat → Bool} {held : Bool} {v : Value} {d : DataW H} {ps : List MemPlace} (hv : Value.okWide P W .any base 22 v) (h : DataW.Trod enc P W base' sp held 22 v d ps) (hw : ∀ k ∈ d.weights P 22, k ≤ reachBytes) :
    ∃ (l : List Cls) (A : Option Addr) (n c : Nat), v = .slice A n c ∧ RowL W (fun _ => True) l A n := by
  obtain ⟨a, len, cap, rfl⟩ := okWide_slice Y.u22 hv
  obtain ⟨n, hn⟩ := h
  rcases DataW.trod_slice Y.u22 hn with ⟨e, -⟩ | ⟨ad, len', cap', elems, rest, m2, hm2, e, hd, -, -, -, hel, hat, -, -⟩
  · simp only [Value.cells, List.cons.injEq, and_true, Value.slice.injEq] at e
    obtain ⟨rfl, rfl, rfl⟩ := e
    exact ⟨[], none, 0, 0, rfl, rfl, fun h => by simp at h⟩
  · simp only [Value.cells, List.cons.injEq, and_true, Value.slice.injEq] at e
    obtain ⟨rfl, rfl, rfl⟩ := e
    by_cases hl0 : len = 0
    · subst hl0
      exact ⟨[], _, 0, _, rfl, rfl, fun h => by simp at h⟩
    have hsp : ad.spot = none := by
      have h7 := hat 0 (by omega)
      rw [List.getElem?_eq_getElem (show 0 < elems.length by omega)] at h7
      exact elems_spot (by rw [Y.c28]; omega) h7
    obtain ⟨blk, off, spot⟩ := ad
    simp only at hsp
    subst hsp
    have hall : ∀ i, i < len → ∃ c, ∃ cs, CellsAt W blk (off + i * 6) cs ∧ RepC W (fun _ => True) c cs := by
      intro i hi
      have h7 := hat i hi
      rw [List.getElem?_eq_getElem (show i < elems.length by omega)] at h7
      obtain ⟨cs, h9, h10⟩ := elems_at h7
      rw [Y.c28] at h9
      obtain ⟨c, hc⟩ := cls_of_trod Y m2 cs _ h10 (fun k hk => hw k (by
        have hd2 := (Prod.mk.inj hd).1
        rw [hd2]
        simp only [DataW.weights, Y.u22, List.mem_cons, List.mem_append]
        exact .inr (.inl (weightsAll_mem (List.mem_map.2 ⟨_, List.getElem_mem _, rfl⟩) k hk))))
      exact ⟨c, cs, h9, hc⟩
    obtain ⟨l, hll, hlg⟩ := exists_list len hall
    exact ⟨l, _, len, _, rfl, hll.symm, fun _ => ⟨blk, off, rfl, trivial, RepR.of_get fun i c hc => hlg i c hc⟩⟩
end Go.Proofs.YtfildbkkmnfekaaGreatDoor
namespace Go.Proofs.YtfildbkkmnfekaaGreatDoor
open Go.RowKit

theorem cells_len (l : List Cls) : (cellsR l).1.length ≤ 200 * l.length + 1 := by
  unfold cellsR
  split
  · simp
  · split
    · rename_i h
      have h1 := cellsF_len (qOf l) (candN (addL l ([], [])) []) []
      rw [candN_len] at h1
      have h2 := addL_len l ([], [])
      have h3 := (chkL_forms h).2
      simp at h1 h2 ⊢
      omega
    · simp
theorem take_beq {q q' : List Bool} {k : Nat} {u x : Bool} (h : q[k]? = some u) (h' : q'[k]? = some x) : (q'.take (k + 1) == q.take (k + 1)) = ((q'.take k == q.take k) && (u == x)) := by
  have e1 : (q.take k).length = k := by have := (List.getElem?_eq_some_iff.1 h).1; rw [List.length_take]; omega
  have e2 : (q'.take k).length = k := by have := (List.getElem?_eq_some_iff.1 h').1; rw [List.length_take]; omega
  rw [List.take_add_one, List.take_add_one, h, h', Bool.eq_iff_iff, beq_iff_eq, Bool.and_eq_true, beq_iff_eq, beq_iff_eq]
  constructor
  · intro e
    obtain ⟨h1, h2⟩ := List.append_inj e (by rw [e1, e2])
    exact ⟨h1, by simpa using h2.symm⟩
  · rintro ⟨h1, h2⟩
    rw [h1, h2]
theorem countP_take {α : Type} {p : α → Bool} {l : List α} {i : Nat} {o : α} (h : l[i]? = some o) : (l.take (i + 1)).countP p = (l.take i).countP p + (if p o then 1 else 0) := by
  rw [List.take_add_one, h, List.countP_append]; simp [List.countP_cons]
theorem chkL_mem {l : List Cls} (h : chkL l = 0) {c : Cls} (hc : c ∈ l) : chkN c = 0 := by
  induction l with
  | nil => simp at hc
  | cons d l ih =>
    rw [chkL] at h
    by_cases h1 : chkN d = 0
    · rw [if_pos h1] at h
      rcases List.mem_cons.1 hc with rfl | hc
      · exact h1
      · exact ih h hc
    · rw [if_neg h1] at h; exact absurd h h1
theorem has_ok {c : Cls} {a b : ByteArray} (h : chkN c = 0) (hv : validB a b = true) : hasRes (chkN c) (validB a b) (hasC c a b) = (inC c a b, 0) := by
  rw [hasRes_eq, ← chk_eq, h, hv]; rfl
theorem cellsR_zero {l : List Cls} {out : List (Nm × List Bool)} (h : cellsR l = (out, 0)) : chkL l = 0 ∧ out = cellsF (qOf l) (candN (addL l ([], [])) []) [] := by
  unfold cellsR at h
  split at h
  · cases h
  · split at h
    · rename_i h0
      exact ⟨h0, (Prod.mk.inj h).1.symm⟩
    · rename_i h0
      exact absurd (Prod.mk.inj h).2 h0
theorem cellD_iff2 {w : World} {F : Nat → Prop} {o : Nm × List Bool} {A : Option Addr} {n c : Nat} (h : RowV w F 1 boolV o.2 A n) (hn : n < 2000000000000) : RepCs w F (cellD o) [.string o.1.1, .string o.1.2, .slice A n c] := by
  unfold cellD
  simp only [RepCs.cons_iff, RepCs.nil_iff, RepV.val_iff, RepV.sl_iff, List.length_map]
  have hl := h.1
  refine ⟨_, _, rfl, rfl, _, _, rfl, rfl, _, _, rfl, ⟨A, c, by rw [hl], by omega, fun hp => ?_⟩, rfl⟩
  obtain ⟨b, off, hA, hb, hc⟩ := h.2 hp
  refine ⟨b, off, hA, hb, RepRow.of_get fun i e he => ?_⟩
  rw [List.getElem?_map] at he
  cases hi : o.2[i]? with
  | none => rw [hi] at he; cases he
  | some v =>
    rw [hi] at he
    obtain rfl : [D.val (.bool v)] = e := by simpa using he
    refine ⟨[.bool v], hc i v hi, ?_⟩
    simp only [RepCs.cons_iff, RepCs.nil_iff, RepV.val_iff]
    exact ⟨_, _, rfl, rfl, rfl⟩
theorem RowK.here' {w : World} {F : Nat → Prop} {l : List (Nm × List Bool)} {A : Option Addr} {n : Nat} (h : RowK w F l A n) : RowK w (· < w.heap.size) l A n := by
  refine ⟨h.1, fun hp => ?_⟩
  obtain ⟨b, off, hA, hb, hr⟩ := h.2 hp
  have h1 := h.1
  have hel : ∀ i e, (l.map cellD)[i]? = some e → ∃ cs, CellsAt w b (off + i * 3) cs ∧ RepCs w (· < w.heap.size) e cs ∧ b < w.heap.size := by
    intro i e he
    rw [List.getElem?_map] at he
    cases hi : l[i]? with
    | none => rw [hi] at he; cases he
    | some o =>
      rw [hi] at he
      obtain rfl : cellD o = e := by simpa using he
      obtain ⟨cs, h2, h3⟩ := hr.get i (cellD o) (by rw [List.getElem?_map, hi]; rfl)
      obtain ⟨A', n', c', rfl, h4, h5⟩ := cellD_row h3
      exact ⟨_, h2, cellD_iff2 (h5.here boolV_ne) h4, h2.lt⟩
  obtain ⟨x, hx⟩ : ∃ x, (l.map cellD)[0]? = some x := ⟨(l.map cellD)[0]'(by rw [List.length_map]; omega), List.getElem?_eq_getElem _⟩
  obtain ⟨-, -, -, hlt⟩ := hel 0 x hx
  exact ⟨b, off, hA, hlt, RepRow.of_get fun i e he => by obtain ⟨cs, h2, h3, -⟩ := hel i e he; exact ⟨cs, h2, h3⟩⟩
theorem cellsPost_row {R : List (Nm × List Bool) × Int} {w w' : World} {A : Option Addr} {n : Nat} (hn : n = R.1.length) (h : 0 < n → ∃ b off, A = some ⟨b, off, none⟩ ∧ w.heap.size ≤ b ∧ RepRow w' (w.heap.size ≤ ·) 3 (R.1.map cellD) b off) : RowK w' (fun b => w.heap.size ≤ b) R.1 A n :=
  ⟨hn, fun hp => by obtain ⟨b, off, h1, h2, h3⟩ := h hp; exact ⟨b, off, h1, h2, h3⟩⟩
set_option maxHeartbeats 4000000 in
set_option maxRecDepth 100000 in
theorem NamesCells_any (l : List Cls) (A : Option Addr) (n c : Nat) (ya yb : ByteArray) (w : World) (F : Nat → Prop) (hrow0 : RowL w F l A n) (hTw : Tab w) :
    Calls Tryz.prog 3 #[.slice A n c, .agg #[.string ya, .string yb]] w fun e w' => e = .returned (.bool true) ∧ Below w.heap.size w w' := by
  have hro := hrow0.here
  have HNL := Lib.hid hro.1
  have HRO := Lib.hid hro
  obtain ⟨w1, hw1, S1, hsz1, hb1⟩ := alloc_facts w (.cells #[.string ya, .string yb] 24)
  have HS1 := Lib.hid S1; have HB1 := Lib.hid hb1; have HTW := Lib.hid hTw
  clear S1 hro hrow0 hTw
  by_cases hout : 300 < n ∨ (12 < n ∧ n ≤ 100)
  · obtain ⟨d1, hd1⟩ : ∃ d, decide ((300 : Int) < (n : Int)) = d := ⟨_, rfl⟩
    have HD : Hid (d1 = true ∨ (decide ((12 : Int) < (n : Int)) = true ∧ decide ((n : Int) ≤ (100 : Int)) = true)) := Lib.hid (by
      rcases hout with h | h
      · left; rw [← hd1]; simp; omega
      · right; simp; omega)
    clear hout
    cases d1
    · have hd2 : decide ((12 : Int) < (n : Int)) = true := (HD.out.resolve_left (by simp)).1
      have hd3 : decide ((n : Int) ≤ (100 : Int)) = true := (HD.out.resolve_left (by simp)).2
      go_enter Tryz.func3, Tryz.ntmps3
      go_wp2_with fail
      refine (shown_any w1 (HTW.out.below HB1.out)).mono ?_
      rintro e w2 ⟨rfl, hb2⟩
      go_wp2_with fail
      go_ret
      exact ⟨rfl, HB1.out.seq hb2⟩
    · go_enter Tryz.func3, Tryz.ntmps3
      go_wp2_with fail
      refine (shown_any w1 (HTW.out.below HB1.out)).mono ?_
      rintro e w2 ⟨rfl, hb2⟩
      go_wp2_with fail
      go_ret
      exact ⟨rfl, HB1.out.seq hb2⟩
  have hd1 : decide ((300 : Int) < (n : Int)) = false := by simp; omega
  have hn300 : n ≤ 300 := by omega
  obtain ⟨d2, hd2⟩ : ∃ d, decide ((12 : Int) < (n : Int)) = d := ⟨_, rfl⟩
  have HD3 : Hid (d2 = true → decide ((n : Int) ≤ (100 : Int)) = false) := Lib.hid (by intro h; rw [h] at hd2; simp at hd2 ⊢; omega)
  clear hout
  go_enter Tryz.func3, Tryz.ntmps3
  go_upto_region 1 with fail
  go_cut [28] (fun s28 wc => s28 = .bool false ∧ wc = w1)
  case first =>
    cases d2
    · go_wp2_with fail
      go_meet
      case rel => exact ⟨rfl, rfl⟩
    · have hd3 := HD3.out rfl
      go_wp2_with fail
      go_meet
      case rel => exact ⟨rfl, rfl⟩
  case rest =>
  obtain ⟨rfl, rfl⟩ := hcut
  go_wp2_with fail
  go_loopw [5] (fun s5 wr => ∃ i : Nat, i ≤ n ∧ s5 = .int .i64 i ∧ Below w.heap.size w wr ∧ wr.heap[w.heap.size]? = some (.cells #[.string ya, .string yb] 24))
    (fun s5 _ => n - (intOf s5).toNat)
  case atStart => exact ⟨0, by omega, rfl, HB1.out, HS1.out⟩
  case round =>
    obtain ⟨i, hi, rfl, hbw, SR⟩ := hrel
    by_cases hlt : i < n
    · obtain ⟨b', off, ch, v0, v1, v2, v3, v4, v5, HX, hrc, z0, z1, z2, z3, z4, z5, hix⟩ := HRO.out.roundB hbw hlt c
      have hd4 : decide (i < n) = true := by simp; omega
      obtain ⟨k3, ns3, nl3, s3, A3, n3, c03, A3', n3', c03', hcs⟩ := hrc.cells
      simp only [List.cons.injEq, and_true] at hcs
      obtain ⟨rfl, rfl, rfl, rfl, rfl, rfl⟩ := hcs
      obtain ⟨g, hg⟩ : ∃ g, decide (400 < sizeC 40 ch) = g := ⟨_, rfl⟩
      have H8 : Hid (Calls Tryz.prog 8 #[.agg #[.int .i64 k3, .string ns3, .string nl3, .string s3, .slice A3 n3 c03, .slice A3' n3' c03'], .int .i64 40] wr fun e w' => e = .returned (.bool g) ∧ Below wr.heap.size wr w') := Lib.hid (great_any ch _ wr _ hrc hg)
      have HSR := Lib.hid SR
      clear hrc hg SR
      cases g
      · go_wp2_with fail
        refine H8.out.mono ?_
        rintro e w2 ⟨rfl, hb2⟩
        go_wp2_with fail
        go_roundw
        case rel => exact ⟨i + 1, by omega, by go_num, hbw.trans (hb2.mono hbw.size), hp_below HSR.out hb2⟩
        case measure => simp [intOf]; omega
      · go_wp2_with fail
        refine H8.out.mono ?_
        rintro e w2 ⟨rfl, hb2⟩
        have HB2 := Lib.hid (hbw.trans (hb2.mono hbw.size))
        go_wp2_with fail
        refine (shown_any w2 (HTW.out.below HB2.out)).mono ?_
        rintro e w3 ⟨rfl, hb3⟩
        go_wp2_with fail
        go_ret
        exact ⟨rfl, HB2.out.trans (hb3.mono HB2.out.size)⟩
    · have hd4 : decide (i < n) = false := by simp; omega
      have HBW := Lib.hid hbw
      have HSR := Lib.hid SR
      have hnl : n < 2000000 := by omega
      have HCL := Lib.hid (cells_len l)
      obtain ⟨⟨out, eo⟩, hR⟩ : ∃ R, cellsR l = R := ⟨_, rfl⟩
      have HR := Lib.hid hR
      rw [hR] at HCL
      have H9 : Hid (Calls Tryz.prog 9 #[.slice A n c] wr (CellsPost (out, eo) wr)) := Lib.hid (by rw [← hR]; exact Cells_any l A n c wr _ (HRO.out.below hbw) hnl (HTW.out.below hbw))
      have HOL : Hid (out.length ≤ 60001) := Lib.hid (by have h1 := HCL.out; have h2 := HNL.out; simp only at h1; omega)
      clear hR hbw SR hi hlt
      go_wp2_with fail
      refine H9.out.mono ?_
      rintro e w2 ⟨A9, n9, c9, rfl, hn9, hr9, hb2⟩
      have hs2 := hb2.size
      have hsr := HBW.out.size
      have HK9 := Lib.hid (cellsPost_row hn9 hr9)
      have HB2 := Lib.hid (HBW.out.trans (hb2.mono HBW.out.size))
      have HS2 := Lib.hid (hp_below HSR.out hb2)
      have HN9 := Lib.hid hn9
      have H10 : Hid (Calls Tryz.prog 10 #[.slice A n c] w2 (CellsPost (out, eo) w2)) := Lib.hid (by rw [← HR.out]; exact refCells_any l A n c w2 _ (HRO.out.below HB2.out) hnl)
      clear hr9 hn9
      go_wp2_with fail
      refine H10.out.mono ?_
      rintro e w3 ⟨A10, n10, c10, rfl, hn10, hr10, hb3⟩
      have hs3 := hb3.size
      have HB3 := Lib.hid (HB2.out.trans (hb3.mono HB2.out.size))
      have HS3 := Lib.hid (hp_below HS2.out hb3)
      have HK10 := Lib.hid (cellsPost_row hn10 hr10).here'
      have HK93 := Lib.hid (HK9.out.here'.below hb3).here'
      have H11 : Hid (Calls Tryz.prog 11 #[.slice A9 n9 c9, .slice A10 n10 c10] w3 fun e w' => e = .returned (.bool true) ∧ Below w3.heap.size w3 w') := Lib.hid (sameCells_eq out A9 A10 n9 n10 c9 c10 w3 HK93.out HK10.out (by have h1 : n9 = out.length := HN9.out; have h2 := HOL.out; omega))
      have hee : (eo != eo) = false := by simp
      clear hr10 hn10
      go_wp2_with fail
      refine H11.out.mono ?_
      rintro e w4 ⟨rfl, hb4⟩
      have hs4 := hb4.size
      have HB4 := Lib.hid (HB3.out.trans (hb4.mono HB3.out.size))
      have HS4 := Lib.hid (hp_below HS3.out hb4)
      have HK4 := Lib.hid (HK93.out.below hb4)
      by_cases he0 : eo = 0
      rotate_left 1
      · have hd5 : (eo != 0) = true := by simpa using he0
        clear he0
        go_wp2_with fail
        refine (shown_any w4 (HTW.out.below HB4.out)).mono ?_
        rintro e w5 ⟨rfl, hb5⟩
        go_wp2_with fail
        go_ret
        exact ⟨rfl, HB4.out.trans (hb5.mono HB4.out.size)⟩
      subst he0
      have hd5 : ((0 : Int) != 0) = false := rfl
      have hd6 : ((0 : Int) == 0) = true := rfl
      obtain ⟨vd, hvd⟩ : ∃ v, validB ya yb = v := ⟨_, rfl⟩
      have HVD := Lib.hid hvd
      obtain ⟨y0, y1⟩ := blk2 HS4.out
      clear hvd
      cases vd
      · go_wp2_with fail
        refine (validr_val ya yb w4 HVD.out).mono ?_
        rintro e w5 ⟨rfl, hb5⟩
        have HB5 := Lib.hid (HB4.out.trans (hb5.mono HB4.out.size))
        go_wp2_with fail
        refine (shown_any w5 (HTW.out.below HB5.out)).mono ?_
        rintro e w6 ⟨rfl, hb6⟩
        go_wp2_with fail
        go_ret
        exact ⟨rfl, HB5.out.trans (hb6.mono HB5.out.size)⟩
      go_wp2_with fail
      refine (validr_val ya yb w4 HVD.out).mono ?_
      rintro e w5 ⟨rfl, hb5⟩
      have hs5 := hb5.size
      have HB5 := Lib.hid (HB4.out.trans (hb5.mono HB4.out.size))
      have HS5 := Lib.hid (hp_below HS4.out hb5)
      have HK5 := Lib.hid (HK4.out.keep (F' := (· < w5.heap.size)) fun b hb => ⟨by omega, hb5.block b (by omega)⟩)
      obtain ⟨q, hq⟩ : ∃ q, qOf l (ya, yb) = q := ⟨_, rfl⟩
      have HQ := Lib.hid hq
      have HZ := Lib.hid (cellsR_zero HR.out)
      have HONE : Hid (out.countP (fun o => o.2 == q) = 1) := Lib.hid (by rw [HZ.out.2, ← hq]; exact cells_one l (ya, yb))
      have HOWN : Hid (∀ o ∈ out, o.2.length = n) := Lib.hid (by rw [HZ.out.2]; intro o ho; rw [cellsF_own (qOf l) _ [] (fun _ h => by simp at h) o ho, qOf_len, HNL.out])
      have hqn : q.length = n := by rw [← hq, qOf_len, HNL.out]
      have HQN := Lib.hid hqn
      have hn9b : n9 < 70000 := by have h1 : n9 = out.length := HN9.out; have h2 := HOL.out; omega
      clear y0 y1 hq hqn
      go_wp2_with fail
      go_loopw [10, 11] (fun s10 s11 wo => ∃ i m : Nat, i ≤ n9 ∧ m ≤ i ∧ s11 = .int .i64 i ∧ s10 = .int .i64 m ∧ Hid ((out.take i).countP (fun o => o.2 == q) = m) ∧ Below w5.heap.size w5 wo)
        (fun _ s11 _ => n9 - (intOf s11).toNat)
      case atStart => exact ⟨0, 0, by omega, by omega, rfl, rfl, Lib.hid rfl, Below.refl _ _⟩
      case round =>
        obtain ⟨i, m, hi, hmi, rfl, rfl, HM, hbo⟩ := hrel
        rename World => wo
        by_cases hil : i < n9
        · obtain ⟨b2, off2, o, B2, m2, d2', HXo, hm2, hv2, r0, r1, r2, hio⟩ := (HK5.out.below hbo).cell hil c9
          have hd7 : decide (i < n9) = true := by simp; omega
          have hmn : n = m2 := by rw [hv2.1, HOWN.out o (List.mem_of_getElem? HXo.out)]
          subst hmn
          have HV2 := Lib.hid (hv2.here boolV_ne)
          have HCT := Lib.hid (countP_take (p := fun o => o.2 == q) HXo.out)
          have hos := hbo.size
          have HBO := Lib.hid (HB5.out.trans (hbo.mono HB5.out.size))
          have HSO := Lib.hid (hp_below HS5.out hbo)
          clear hv2 r0 r1
          go_wp2_with fail
          go_loopw [12, 13] (fun s12 s13 wi => ∃ k : Nat, k ≤ n ∧ s13 = .int .i64 k ∧ s12 = .bool (o.2.take k == q.take k) ∧ Below wo.heap.size wo wi)
            (fun _ s13 _ => n - (intOf s13).toNat)
          case atStart => exact ⟨0, by omega, rfl, rfl, Below.refl _ _⟩
          case round =>
            obtain ⟨k, hk, rfl, rfl, hbi⟩ := hrel
            rename World => wi
            have HBI := Lib.hid (HBO.out.trans (hbi.mono HBO.out.size))
            by_cases hkl : k < n
            · obtain ⟨b', off, ch, v0, v1, v2, v3, v4, v5, HX3, hrc, z0, z1, z2, z3, z4, z5, hix⟩ := HRO.out.roundB HBI.out hkl c
              have hd8 : decide (k < n) = true := by simp; omega
              obtain ⟨k3, ns3, nl3, s3, A3, n3, c03, A3', n3', c03', hcs⟩ := hrc.cells
              simp only [List.cons.injEq, and_true] at hcs
              obtain ⟨rfl, rfl, rfl, rfl, rfl, rfl⟩ := hcs
              obtain ⟨u, hu⟩ : ∃ u, inC ch ya yb = u := ⟨_, rfl⟩
              have HQU : Hid (q[k]? = some u) := Lib.hid (by rw [← HQ.out]; unfold qOf; rw [List.getElem?_map, HX3.out, ← hu]; rfl)
              have H13 : Hid (∀ p : Since wi, Calls Tryz.prog 13 #[.agg #[.int .i64 k3, .string ns3, .string nl3, .string s3, .slice A3 n3 c03, .slice A3' n3' c03'], .agg #[.string ya, .string yb]] p.wld fun e w' => e = .returned (.tuple #[.bool u, .int .i64 0]) ∧ Below p.wld.heap.size p.wld w') := Lib.hid fun p => by
                have h := Has_any ya yb ch _ p.wld _ (Since.rep hrc p)
                rw [has_ok (chkL_mem HZ.out.1 (List.mem_of_getElem? HX3.out)) HVD.out, hu] at h
                exact h
              obtain ⟨bx, offx, x, HXx, t0, hjx⟩ := (HV2.out.below hbi).bool hkl d2'
              have r2i := (hbi.cell (World.block_lt_of_cell? wo _ r2)).trans r2
              obtain ⟨y0, y1⟩ := blk2 (hp_below HSO.out hbi)
              obtain ⟨ux, hux⟩ : ∃ ux, (u == x) = ux := ⟨_, rfl⟩
              obtain ⟨f0, hf0⟩ : ∃ f0, (o.2.take k == q.take k) = f0 := ⟨_, rfl⟩
              have HT : Hid ((o.2.take (k + 1) == q.take (k + 1)) = (f0 && ux)) := Lib.hid (by rw [take_beq HQU.out HXx.out, hf0, hux])
              have P0 := Since.cell z0; have P1 := Since.cell z1; have P2 := Since.cell z2; have P3 := Since.cell z3; have P4 := Since.cell z4; have P5 := Since.cell z5
              have R2 := Since.cell r2i; have T0 := Since.cell t0; have Y0 := Since.cell y0; have Y1 := Since.cell y1
              rw [hf0]
              clear hrc hu hf0
              go_wp2_with fail
              refine wp_region_since (by kernel_rfl) (by kernel_rfl) ?_
              repeat (quiet_step (first | (go_at_call 13; exact since_of (H13.out _))))
              refine wpQuiet_nil ?_
              intro wq hq2
              have hbq := since_below hq2
              have r2q := (hbq.cell (World.block_lt_of_cell? wi _ r2i)).trans r2i
              have t0q := (hbq.cell (World.block_lt_of_cell? wi _ t0)).trans t0
              clear hq2 P0 P1 P2 P3 P4 P5 R2 T0 Y0 Y1
              cases f0
              · go_wp2_with fail
                go_roundw
                case rel => exact ⟨k + 1, by omega, by go_num, by rw [HT.out]; rfl, hbi.trans (hbq.mono hbi.size)⟩
                case measure => simp [intOf]; omega
              · go_wp2_with fail
                go_roundw
                case rel => exact ⟨k + 1, by omega, by go_num, by rw [HT.out]; rfl, hbi.trans (hbq.mono hbi.size)⟩
                case measure => simp [intOf]; omega
            · have hd8 : decide (k < n) = false := by simp; omega
              have hkn : k = n := by omega
              rw [hkn, List.take_of_length_le (l := o.2) (by rw [HOWN.out o (List.mem_of_getElem? HXo.out)]; exact Nat.le_refl _), List.take_of_length_le (l := q) (by rw [HQN.out]; exact Nat.le_refl _)]
              obtain ⟨f0, hf0⟩ : ∃ f0, (o.2 == q) = f0 := ⟨_, rfl⟩
              rw [hf0] at HCT ⊢
              have HBQ := Lib.hid (hbo.trans (hbi.mono hbo.size))
              clear hf0 hkn
              cases f0
              · go_wp2_with fail
                go_roundw
                case rel => exact ⟨i + 1, m, by omega, by omega, by go_num, rfl, Lib.hid (by rw [HCT.out, HM.out]; rfl), HBQ.out⟩
                case measure => simp [intOf]; omega
              · go_wp2_with fail
                go_roundw
                case rel => exact ⟨i + 1, m + 1, by omega, by omega, by go_num, by go_num, Lib.hid (by rw [HCT.out, HM.out]; rfl), HBQ.out⟩
                case measure => simp [intOf]; omega
        · have hd7 : decide (i < n9) = false := by simp; omega
          have hin : i = n9 := by omega
          have hm1 : m = 1 := by
            have h1 := HM.out
            rw [hin, List.take_of_length_le (by have h : n9 = out.length := HN9.out; omega), HONE.out] at h1
            exact h1.symm
          subst hm1
          have HBE := Lib.hid (HB5.out.trans (hbo.mono HB5.out.size))
          clear hin
          go_wp2_with fail
          refine (shown_any wo (HTW.out.below HBE.out)).mono ?_
          rintro e w6 ⟨rfl, hb6⟩
          go_wp2_with fail
          go_ret
          exact ⟨rfl, HBE.out.trans (hb6.mono HBE.out.size)⟩
end Go.Proofs.YtfildbkkmnfekaaGreatDoor
namespace Go.Proofs.YtfildbkkmnfekaaGreatDoor.namesCells
open Go.ChangeShapes Go.WideShapes Go.ChangeAt Go.RowKit

theorem own : ownKnob Tryz.prog.godebug = none := by kernel_rfl
set_option maxRecDepth 100000 in
theorem contract (H : Type) (enc : TypeId × Value → H) (W : World) (base : Nat) (args : Array Value) (ds gs : List (DataW H)) (before : List MemPlace)
    (hval : ∀ (j : Nat) t v, Tryz.f3.params[j]? = some t → args[j]? = some v → Value.okWide Tryz.prog W .any base t v)
    (hW : DataW.Whole enc Tryz.prog Tryz.f3.params.toList Rows.namesCellsSpec.vars false W args.toList ds gs before)
    (hsz : (DataW.weightsEach Tryz.prog (Tryz.f3.params.toList ++ (OpenSpec.ofChange Rows.namesCellsSpec).bare.plain.varTypes Tryz.prog) (ds ++ gs)).all (· ≤ reachBytes) = true) (hL : laidMetH Tryz.prog Rows.namesCellsRow.laid W) :
    Calls Tryz.prog 3 args W fun e W' => ∃ v, e = .returned v ∧ Rows.namesCellsSpec.post enc Tryz.prog Tryz.f3 false true false false W args v W' := by
  have hW' := hW
  obtain ⟨p, q, hA0, hV, rfl, hfz, hnd⟩ := hW
  have hA : DataW.TrodAll enc Tryz.prog W 0 (fun _ => true) true Tryz.f3.params.toList args.toList ds p := hA0
  rw [Tryz.params3] at hA hval hsz
  obtain ⟨v0, vs0, d0, ds0, p0, q0, hargs, rfl, rfl, h0, r0⟩ := trodAll_cons hA
  obtain ⟨v1, vs1, d1, ds1, p1, q1, rfl, rfl, rfl, h1, r1⟩ := trodAll_cons r0
  obtain ⟨rfl, rfl, rfl⟩ := trodAll_nil r1
  obtain rfl : args = #[v0, v1] := by cases args; simp_all
  obtain ⟨rfl, rfl⟩ := trodVars_none hV
  have hwt : ∀ (j : Nat) (t : TypeId) (d : DataW H), [22, 24][j]? = some t → [d0, d1][j]? = some d → ∀ k ∈ d.weights Tryz.prog t, k ≤ reachBytes := by
    intro j t d ht hd k hk
    have hj : j < 2 := (List.getElem?_eq_some_iff.1 ht).1
    have := List.all_eq_true.1 hsz k (DataW.weights_mem_each (j := j) (t := t) (d := d) (by show ([22, 24] ++ _)[j]? = some t; rw [List.getElem?_append_left hj]; exact ht) (by show ([d0, d1] ++ _)[j]? = some d; rw [List.getElem?_append_left hj]; exact hd) k hk)
    simpa using this
  have k0 := hval 0 22 v0 rfl rfl
  have k1 := hval 1 24 v1 rfl rfl
  have g0 := hwt 0 22 d0 rfl rfl
  obtain ⟨l, A, n, c, rfl, hr1⟩ := open_clss lays k0 h0 g0
  obtain ⟨a, b, rfl⟩ := open_nm lays k1 h1
  have hl := hW'.lt
  refine (NamesCells_any l A n c a b W _ hr1 (tab_of_laid (show laidMetH Tryz.prog Rows.namesSetsRow.laid W from hL))).mono fun e W' ⟨he, hb⟩ => ?_
  subst he
  have st : ∀ (sp : Nat → Bool) {t : TypeId} {v : Value} {d : DataW H} {ps : List MemPlace} (_ : Tryz.prog.readableRec t = true) (_ : t < Tryz.prog.types.size) (_ : DataW.Trod enc Tryz.prog W 0 (fun _ => true) true t v d ps) (_ : ∀ x ∈ ps, x.block < W.heap.size) (_ : ∀ x ∈ ps, sp x.block = true), DataW.Trod enc Tryz.prog W' 0 sp true t v d ps :=
    fun sp {t v d ps} hr hrow h hlt hsp => WideElems.Trod_stays laidOut hr hrow h (fun x hx => hb.same (hlt x hx)) hsp
  refine ⟨_, rfl, post_below (pa := p0 ++ (p1 ++ [])) (pv := []) hW' (fun _ _ _ => trodAll_cons_mk (shut_bool Tryz.underlying4 _) trodAll_mk0)
    (fun sp hsp => trodAll_cons_mk (st sp (by kernel_rfl) (of_decide_eq_true (by kernel_rfl)) h0 (fun x hx => hl x (by simp [hx])) (fun x hx => hsp x (by simp [hx])))
      (trodAll_cons_mk (st sp (by kernel_rfl) (of_decide_eq_true (by kernel_rfl)) h1 (fun x hx => hl x (by simp [hx])) (fun x hx => hsp x (by simp [hx]))) trodAll_mk0))
    (fun _ _ => rfl) (by simp) hb (ok_one (by kernel_rfl) rfl (okWide_bool_mk Tryz.underlying4 _))⟩

theorem reads (os : Os) {H : Type} (enc : TypeId × Value → H) : ∃ places, DataW.whole enc Tryz.prog ((laidWorld os #[.slice none 0 0, nz]).forCall (fun _ _ => 0) ⟨#[], #[.slice none 0 0, nz], []⟩).memory Tryz.f3.params.toList Rows.namesCellsSpec.vars false (#[.slice none 0 0, nz] : Array Value).toList 8 = some ([.nil, .agg [.lit (.string []), .lit (.string [])]], [], places) :=
  ⟨[], by kernel_rfl⟩
set_option maxRecDepth 100000 in
theorem lifted (os : Os) (started : os.Started) (H : Type) (enc : TypeId × Value → H) (F : Stop.Interp) :
    ReturnsInHanded {} Tryz.checked os 3 .any ((OpenSpec.ofChange Rows.namesCellsSpec).preRow enc Tryz.prog Tryz.f3 Rows.namesCellsRow.domain false Rows.namesCellsRow.laid) (((OpenSpec.ofChange Rows.namesCellsSpec).at F).post enc Tryz.prog Tryz.f3 false true false false) := by
  obtain ⟨places, hx⟩ := reads os enc
  refine returnsInHanded_of_row (C := Tryz.checked) (s := OpenSpec.ofChange Rows.namesCellsSpec) own started (by kernel_rfl) Tryz.func3
    (witness_row_at (enc := enc) (C := Tryz.checked) false (laidWorld os #[.slice none 0 0, nz]) #[.slice none 0 0, nz] rfl (by kernel_rfl) (by kernel_rfl) (by kernel_rfl)
      (OpenSpec.preRow_of_cond 8 hx (by kernel_rfl) (fun k hk => by cases hk) (by kernel_rfl) (laidMet_of_run' 8 (by kernel_rfl) (by kernel_rfl)))) ?_
  intro W base args ds gs before hval hW _ _ hsz hL _ _
  exact contract H enc W base args ds gs before hval hW hsz hL
theorem said : Rows.NamesCellsSaid :=
  OpenClaim.holds_of_cond 3 Tryz.f3 rfl rfl rfl rfl rfl rfl rfl ⟨rfl, rfl, rfl, rfl, rfl⟩ rfl rfl rfl rfl rfl (by kernel_rfl) Tryz.func3 (by kernel_rfl)
    (of_decide_eq_true (by kernel_rfl)) (by unfold Func.isWrapper; first | (rw [if_pos (by decide +kernel)]; kernel_rfl) | (rw [if_neg (by decide +kernel)]; exact ⟨rfl, rfl⟩))
    (fun os started H enc _ F => by rw [OpenClaim.pre_eq_preRow]; exact lifted os started H enc F)
/-- No parameter wants a stand-in; the program's own looks are off. -/
theorem plain (f : FuncId) (fn : Func) (hf : Tryz.pinned.checked.prog.funcNamed "gabarit/gabaritlaw01.NamesCells" = some f) (hfn : Tryz.pinned.checked.prog.funcs[f]? = some fn) :
    false = Tryz.pinned.checked.prog.looks [] ∧ ∀ (j : Nat) t, fn.params[j]? = some t → Tryz.pinned.checked.prog.wantsStandIn t = false := by
  obtain rfl : f = 3 := Option.some.inj ((show Tryz.prog.funcNamed "gabarit/gabaritlaw01.NamesCells" = some 3 by kernel_rfl).symm.trans hf) |>.symm
  obtain rfl : fn = Tryz.f3 := (Option.some.inj (Tryz.func3.symm.trans hfn)).symm
  refine ⟨by kernel_rfl, fun j t ht => ?_⟩
  rw [Tryz.params3] at ht
  have hm := Array.mem_of_getElem? ht
  simp only [List.mem_toArray, List.mem_cons, List.not_mem_nil, or_false] at hm
  rcases hm with rfl | rfl
  · exact (show Tryz.prog.wantsStandIn 22 = false by kernel_rfl)
  · exact (show Tryz.prog.wantsStandIn 24 = false by kernel_rfl)
theorem card : Rows.NamesCellsCardSaid :=
  Claim7.holds_tied_plain_at .later [] _ _ _ _ said (fun _ h => by cases h) (by kernel_rfl) (fun _ h => by cases h) namesCells_row_tie rfl ⟨rfl, rfl⟩ (by kernel_rfl) rfl plain (by kernel_rfl)
end Go.Proofs.YtfildbkkmnfekaaGreatDoor.namesCells
namespace Go.Proofs.YtfildbkkmnfekaaGreatDoor
theorem namesCells_holds : Rows.NamesCellsCardSaid := namesCells.card
end Go.Proofs.YtfildbkkmnfekaaGreatDoor
