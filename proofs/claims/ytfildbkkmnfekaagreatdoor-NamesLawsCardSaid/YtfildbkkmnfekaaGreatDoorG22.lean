/- Maps from names and spaces to bools. slices.Index and slices.Contains at names. -/
import Derived.Test.YtfildbkkmnfekaaGreatDoorG05
import Derived.WalkKit
import Derived.WalkSpells
import Derived.WalkLawsBesides
import Derived.BigGuardPart
import Derived.Lib.Hide
import Derived.Deep.QuietTactic
import Derived.BigQuiet
import Derived.StillTailTactics
import Derived.Deep.DeepCutAuto
import Derived.Deep.CutBlock
import Derived.Laws.EntriesVeiled
namespace Go.Proofs.YtfildbkkmnfekaaGreatDoor
open Go.RowKit

section
variable {κ : Type} {P : Program}
/-- A map's entries, in the order in which they came. -/
def mE (enc : κ → Value) : List (κ × Bool) → Nat → List MapEntry
  | [], _ => []
  | (k, v) :: l, i => ⟨enc k, .bool v, i⟩ :: mE enc l (i + 1)
def pos (eq : κ → κ → Bool) (k : κ) : List (κ × Bool) → Nat → Option (Nat × Bool)
  | [], _ => none
  | (k', v) :: l, i => if eq k k' then some (i, v) else pos eq k l (i + 1)
def look (eq : κ → κ → Bool) (k : κ) : List (κ × Bool) → Option Bool
  | [] => none
  | (k', v) :: l => if eq k k' then some v else look eq k l
def putM (eq : κ → κ → Bool) (k : κ) (v : Bool) : List (κ × Bool) → List (κ × Bool)
  | [] => [(k, v)]
  | (k', v') :: l => if eq k k' then (k, v) :: l else (k', v') :: putM eq k v l
def mObj (enc : κ → Value) (l : List (κ × Bool)) : Obj := .map (mE enc l 0).toArray l.length
def MapIs (w : World) (g : Nat) (enc : κ → Value) (l : List (κ × Bool)) : Prop := w.heap[g]? = some (mObj enc l)
structure KeyTy (P : Program) (kt : TypeId) (enc : κ → Value) (eq : κ → κ → Bool) : Prop where
  chk : ∀ e k W, (Instr.checkKey e 10000 kt (enc k)).run P W = .ok () W
  find : ∀ l k W, (Instr.findKey kt (enc k) (mE enc l 0)).run P W = .ok ((pos eq k l 0).map fun p => (p.1, .bool p.2)) W
  inj : ∀ a b, eq a b = true → a = b
  same : ∀ k, Instr.sameBits 10000 (enc k) (enc k) = true
theorem mE_len (enc : κ → Value) : ∀ (l : List (κ × Bool)) (i : Nat), (mE enc l i).length = l.length
  | [], _ => rfl
  | (k, v) :: l, i => by rw [mE, List.length_cons, List.length_cons, mE_len enc l]
theorem mE_get (enc : κ → Value) : ∀ (l : List (κ × Bool)) (i j : Nat), (mE enc l i)[j]? = (l[j]?).map fun p => ⟨enc p.1, .bool p.2, i + j⟩
  | [], _, _ => by simp [mE]
  | (k, v) :: l, i, 0 => by simp [mE]
  | (k, v) :: l, i, j + 1 => by
    rw [mE, List.getElem?_cons_succ, List.getElem?_cons_succ, mE_get enc l (i + 1) j, show i + 1 + j = i + (j + 1) by omega]
theorem pos_look (eq : κ → κ → Bool) (k : κ) : ∀ (l : List (κ × Bool)) (i : Nat), (pos eq k l i).map (·.2) = look eq k l
  | [], _ => rfl
  | (k', v) :: l, i => by
    rw [pos, look]
    split
    · rfl
    · exact pos_look eq k l (i + 1)
theorem mE_put_new (enc : κ → Value) (eq : κ → κ → Bool) (k : κ) (v : Bool) : ∀ (l : List (κ × Bool)) (i : Nat), pos eq k l i = none → mE enc (putM eq k v l) i = mE enc l i ++ [⟨enc k, .bool v, i + l.length⟩] ∧ (putM eq k v l).length = l.length + 1
  | [], i, _ => by simp [putM, mE]
  | (k', v') :: l, i, h => by
    rw [pos] at h
    split at h
    · cases h
    · rename_i hk
      have ih := mE_put_new enc eq k v l (i + 1) h
      rw [putM, if_neg hk, mE, mE, ih.1, List.length_cons, List.length_cons, ih.2]
      exact ⟨by rw [show i + 1 + l.length = i + (l.length + 1) by omega]; rfl, rfl⟩
theorem mE_put_old (enc : κ → Value) (eq : κ → κ → Bool) (hi : ∀ a b, eq a b = true → a = b) (k : κ) (v : Bool) : ∀ (l : List (κ × Bool)) (i j : Nat) (u : Bool), pos eq k l i = some (j, u) →
    i ≤ j ∧ j < i + l.length ∧ (putM eq k v l).length = l.length ∧ (∃ e, (mE enc l i)[j - i]? = some e ∧ e.key = enc k) ∧ mE enc (putM eq k v l) i = (mE enc l i).modify (j - i) fun e => { e with key := enc k, val := .bool v }
  | [], i, j, u, h => by simp [pos] at h
  | (k', v') :: l, i, j, u, h => by
    rw [pos] at h
    split at h
    · rename_i hk
      obtain ⟨rfl, rfl⟩ : i = j ∧ v' = u := by simpa using h
      obtain rfl := hi _ _ hk
      rw [putM, if_pos hk, Nat.sub_self]
      exact ⟨Nat.le_refl _, by simp, rfl, ⟨_, rfl, rfl⟩, by simp [mE]⟩
    · rename_i hk
      obtain ⟨h1, h2, h3, ⟨e, he, hek⟩, h5⟩ := mE_put_old enc eq hi k v l (i + 1) j u h
      rw [putM, if_neg hk]
      have e1 : j - i = (j - (i + 1)) + 1 := by omega
      refine ⟨by omega, by rw [List.length_cons]; omega, by rw [List.length_cons, List.length_cons, h3], ⟨e, by rw [e1, mE]; simpa using he, hek⟩, ?_⟩
      rw [mE, mE, h5, e1]
      rfl
/-- m[k], and whether it is there. -/
theorem run_look {kt mt : TypeId} {enc : κ → Value} {eq : κ → κ → Bool} (K : KeyTy P kt enc eq) (hm : P.underlying mt = some (.map kt 4)) (hz : ∀ W, (zeroValue 4).run P W = .ok (.bool false) W) {W : World} {g : Nat} {l : List (κ × Bool)} (h : MapIs W g enc l) (k : κ) (ok : Bool) :
    (Instr.lookup mt (.map (some g)) (enc k) ok).run P W = .ok (if ok then .tuple #[.bool ((look eq k l).getD false), .bool (look eq k l).isSome] else .bool ((look eq k l).getD false)) W := by
  have hg := MapKept.run_getObj_map (P := P) (show W.heap[g]? = some (.map (mE enc l 0).toArray l.length) from h)
  have hp := pos_look eq k l 0
  have hf := K.find l k W
  have hc := K.chk (mE enc l 0).toArray.isEmpty k W
  cases hpos : pos eq k l 0 with
  | none =>
    rw [hpos] at hp hf
    rw [← hp]
    simp only [Instr.lookup, Sem.run_bind, run_underlying hm, Result.andThen, hg, Sem.run_pure, hc, hf, hz, Option.map_none]
    cases ok <;> rfl
  | some p =>
    rw [hpos] at hp hf
    rw [← hp]
    simp only [Instr.lookup, Sem.run_bind, run_underlying hm, Result.andThen, hg, Sem.run_pure, hc, hf, Option.map_some]
    cases ok <;> rfl
/-- m[k] = v. -/
theorem run_put {kt mt et : TypeId} {enc : κ → Value} {eq : κ → κ → Bool} (K : KeyTy P kt enc eq) (hm : P.underlying mt = some (.map kt et)) {W : World} {g : Nat} {l : List (κ × Bool)} (h : MapIs W g enc l) (k : κ) (v : Bool) :
    (Instr.mapUpdate mt (.map (some g)) (enc k) (.bool v)).run P W = .ok () { W with heap := W.heap.setIfInBounds g (mObj enc (putM eq k v l)) } := by
  have hg := MapKept.run_getObj_map (P := P) (show W.heap[g]? = some (.map (mE enc l 0).toArray l.length) from h)
  have hs := fun o => MapKept.run_setObj_map (P := P) o (show W.heap[g]? = some (.map (mE enc l 0).toArray l.length) from h)
  have hf := K.find l k W
  have hc := K.chk false k W
  cases hpos : pos eq k l 0 with
  | none =>
    rw [hpos] at hf
    obtain ⟨h1, h2⟩ := mE_put_new enc eq k v l 0 hpos
    simp only [Instr.mapUpdate, Sem.run_bind, run_underlying hm, Result.andThen, hg, hc, hf, Option.map_none, hs]
    unfold mObj
    rw [h1, h2, Nat.zero_add]
    simp
  | some p =>
    obtain ⟨j, u⟩ := p
    rw [hpos] at hf
    obtain ⟨h1, h2, h3, ⟨e, he, hek⟩, h5⟩ := mE_put_old enc eq K.inj k v l 0 j u hpos
    rw [Nat.sub_zero] at he h5
    have hkey : ((((mE enc l 0).toArray[j]?).map (·.key)).getD (enc k)) = enc k := by simp [he, hek]
    simp only [Instr.mapUpdate, Sem.run_bind, run_underlying hm, Result.andThen, hg, Sem.run_pure, hc, hf, Option.map_some, hs, hkey, Instr.keyThatStays, K.same, if_true]
    unfold mObj
    rw [h3, h5]
    simp
theorem MapIs.keep {w w' : World} {g : Nat} {enc : κ → Value} {l : List (κ × Bool)} (h : MapIs w g enc l) (hb : w'.heap[g]? = w.heap[g]?) : MapIs w' g enc l := hb.trans h
theorem MapIs.below {w w' : World} {g : Nat} {enc : κ → Value} {l : List (κ × Bool)} (h : MapIs w g enc l) (hb : Below w.heap.size w w') : MapIs w' g enc l := hp_below h hb
theorem MapIs.lt {w : World} {g : Nat} {enc : κ → Value} {l : List (κ × Bool)} (h : MapIs w g enc l) : g < w.heap.size := hp_lt h
/-- The world after m[k] = v. -/
theorem MapIs.put {W : World} {g : Nat} {enc : κ → Value} {l l' : List (κ × Bool)} (h : MapIs W g enc l) : ∃ W', { W with heap := W.heap.setIfInBounds g (mObj enc l') } = W' ∧ MapIs W' g enc l' ∧ (∀ b, b ≠ g → W'.heap[b]? = W.heap[b]?) ∧ W'.heap.size = W.heap.size ∧ Kept (· = g) W W' := by
  have hlt := h.lt
  refine ⟨_, rfl, by unfold MapIs; simp [hlt], fun b hb => by simp [Ne.symm hb], by simp, rfl, rfl, rfl, by simp, fun b _ hb => by simp [Ne.symm hb]⟩
end
theorem beq_eqS (a b : ByteArray) : (a == b) = eqS a b := by
  rw [Bool.eq_iff_iff, MapKept.bytes_beq, eqS_iff]
def stE (s : ByteArray) : Value := .string s
def nmE (x : Nm) : Value := .agg #[.string x.1, .string x.2]
theorem findNow_str (a : ByteArray) : ∀ (l : List (ByteArray × Bool)) (i : Nat), Instr.findNow .string (.string a) (mE stE l i) i = some ((pos eqS a l i).map fun p => (p.1, .bool p.2))
  | [], _ => rfl
  | (b, v) :: l, i => by
    rw [mE, Instr.findNow, stE, Instr.sameNow, beq_eqS, pos]
    cases h : eqS a b
    · simp only [Bool.false_eq_true, if_false]
      exact findNow_str a l (i + 1)
    · rfl
theorem eqS_comm (a b : ByteArray) : eqS a b = eqS b a := by
  rw [Bool.eq_iff_iff, eqS_iff, eqS_iff]; exact eq_comm
theorem keyStr : KeyTy Tryz.prog 9 stE eqS where
  chk e k W := MapKept.run_checkKey (d := .string) (by kernel_rfl) (by simp [stE, MapKept.IsKey]) e 9999
  find l k W := MapKept.run_findKey (d := .string) (by kernel_rfl) (findNow_str k l 0)
  inj a b h := eqS_iff.1 h
  same k := by simp [stE, Instr.sameBits, MapKept.bytes_beq]
theorem run_equal_nm (x y : Nm) (W : World) : (Op.equal 24 (nmE x) (nmE y)).run Tryz.prog W = .ok (eqN x y) W := by
  have h := run_eql_name x.1 x.2 y.1 y.2 W
  rw [run_eql_struct] at h
  unfold Op.equal Op.maxDepth nmE
  cases hr : (Op.equalIn 10000 24 (.agg #[.string x.1, .string x.2]) (.agg #[.string y.1, .string y.2])).run Tryz.prog W with
  | ok b w' =>
    rw [hr] at h
    simp only [Result.andThen, Result.ok.injEq, Value.bool.injEq] at h
    rw [h.1, h.2]; rfl
  | halt e w' =>
    rw [hr] at h
    simp [Result.andThen] at h
theorem und24 : ∃ fs, Tryz.prog.underlying 24 = some (.struct fs) := ⟨_, Tryz.underlying24⟩
theorem findAsking_nm (x : Nm) (W : World) : ∀ (l : List (Nm × Bool)) (i : Nat), (Instr.findAsking 24 (nmE x) (mE nmE l i) i).run Tryz.prog W = .ok ((pos eqN x l i).map fun p => (p.1, .bool p.2)) W
  | [], _ => rfl
  | (y, v) :: l, i => by
    rw [mE, Instr.findAsking, pos]
    simp only [Sem.run_bind, run_equal_nm, Result.andThen]
    cases eqN x y
    · simp only [Bool.false_eq_true, if_false]
      exact findAsking_nm x W l (i + 1)
    · rfl
theorem findKey_nm (x : Nm) (W : World) (l : List (Nm × Bool)) : (Instr.findKey 24 (nmE x) (mE nmE l 0)).run Tryz.prog W = .ok ((pos eqN x l 0).map fun p => (p.1, .bool p.2)) W := by
  have h := findAsking_nm x W l 0
  obtain ⟨fs, hfs⟩ := und24
  cases l with
  | nil => exact MapKept.run_findKey hfs rfl
  | cons p l =>
    obtain ⟨y, v⟩ := p
    rw [mE] at h ⊢
    simp only [Instr.findKey, Sem.run_bind, run_underlying hfs, Result.andThen, Instr.findNow, Instr.sameNow]
    exact h
theorem keyNm : KeyTy Tryz.prog 24 nmE eqN where
  chk e k W := by
    show _ = _
    cases e <;> kernel_rfl
  find l k W := findKey_nm k W l
  inj a b h := by
    unfold eqN at h
    rw [Bool.and_eq_true, eqS_iff, eqS_iff] at h
    exact Prod.ext h.1 h.2
  same k := by simp [nmE, Instr.sameBits, MapKept.bytes_beq]
end Go.Proofs.YtfildbkkmnfekaaGreatDoor
namespace Go.Proofs.YtfildbkkmnfekaaGreatDoor
open Go.RowKit

/-- Where a name first is, or -1. -/
def ixN : List Nm → ByteArray → ByteArray → Nat → Int
  | [], _, _, _ => -1
  | x :: l, a, b, i => if eqS a x.1 && eqS b x.2 then i else ixN l a b (i + 1)
theorem ixN_step {l : List Nm} {i : Nat} {x y a b : ByteArray} (hx : l[i]? = some (x, y)) : ixN (l.drop i) a b i = if eqS a x && eqS b y then (i : Int) else ixN (l.drop (i + 1)) a b (i + 1) := by
  obtain ⟨h1, h2⟩ := List.getElem?_eq_some_iff.1 hx
  rw [List.drop_eq_getElem_cons h1, ixN, h2]
theorem ixN_has (l : List Nm) (a b : ByteArray) : ∀ i, decide (0 ≤ ixN l a b i) = inNs l a b := by
  induction l with
  | nil => intro i; simp [ixN, inNs]
  | cons x l ih =>
    intro i
    rw [ixN, inNs, eqS_comm a, eqS_comm b]
    cases h : (eqS x.1 a && eqS x.2 b)
    · simpa using ih (i + 1)
    · simp
set_option maxHeartbeats 1000000 in
set_option maxRecDepth 100000 in
theorem index_any (a b : ByteArray) (l : List Nm) (A : Option Addr) (n c : Nat) (w : World) (F : Nat → Prop) (hrow0 : RowV w F 2 nmV l A n) (hn : n < 2000000000000) :
    Calls Tryz.prog 89 #[.slice A n c, .agg #[.string a, .string b]] w fun e w' => e = .returned (.int .i64 (ixN l a b 0)) ∧ Below w.heap.size w w' := by
  have hrow := hrow0.here nmV_ne
  obtain ⟨w1, hw1, hblk, hsz, hb1⟩ := alloc_facts w (.cells #[.string a, .string b] 24)
  have HB := Lib.hid hblk; clear hblk hrow0
  go_enter Tryz.func89, Tryz.ntmps89
  go_wp2_with fail
  have HW := Lib.hid hw1; clear hw1
  go_loopw [5, 8] (fun s5 si wr => ∃ i : Nat, i ≤ n ∧ si = .int .i64 i ∧ Hid (ixN l a b 0 = ixN (l.drop i) a b i) ∧ Below w1.heap.size w1 wr)
    (fun _ si _ => n - (intOf si).toNat)
  case atStart => exact ⟨0, by omega, rfl, Lib.hid rfl, Below.refl _ _⟩
  case round =>
    obtain ⟨i, hi, rfl, HL, hbr⟩ := hrel
    obtain ⟨n0, n1⟩ := blk2 (hp_below HB.out hbr)
    have hbw := hb1.seq hbr
    by_cases hlt : i < n
    · obtain ⟨b', off, x, y, HX, p0, p1, hix⟩ := (hrow.below hbw).name hlt c
      have hd : decide (i < n) = true := by simp; omega
      obtain ⟨v, hv⟩ : ∃ v, (eqS a x && eqS b y) = v := ⟨_, rfl⟩
      have hq : ∀ W, (binOp .eql 24 (.agg #[.string a, .string b]) (.agg #[.string x, .string y])).run Tryz.prog W = .ok (.bool v) W := fun W => by rw [run_eql_name, hv]
      have HV := Lib.hid hv
      clear hv
      go_wp2_with fail
      cases v
      · go_quiet (fail)
        go_wp2_with fail
        go_roundw
        case rel => exact ⟨i + 1, by omega, by go_num, Lib.hid (by rw [HL.out, ixN_step HX.out, HV.out]; rfl), hbr.drewN _⟩
        case measure => simp [intOf]; omega
      · go_quiet (fail)
        go_wp2_with fail
        go_ret
        exact ⟨ret_int (by rw [HL.out, ixN_step HX.out, HV.out]; rfl), hbw.drewN _⟩
    · have hd : decide (i < n) = false := by simp; omega
      have hdn : l.drop i = [] := List.drop_eq_nil_of_le (by have := hrow.len; omega)
      have HE := Lib.hid hdn; clear hdn
      go_wp2_with fail
      go_ret
      exact ⟨ret_int (by rw [HL.out, HE.out]; rfl), hbw⟩
set_option maxHeartbeats 1000000 in
set_option maxRecDepth 100000 in
theorem contains70_any (a b : ByteArray) (l : List Nm) (A : Option Addr) (n c : Nat) (w : World) (F : Nat → Prop) (hrow0 : RowV w F 2 nmV l A n) (hn : n < 2000000000000) :
    Calls Tryz.prog 70 #[.slice A n c, .agg #[.string a, .string b]] w fun e w' => e = .returned (.bool (inNs l a b)) ∧ Below w.heap.size w w' := by
  have hrow := hrow0.here nmV_ne
  obtain ⟨w1, hw1, hblk, hsz, hb1⟩ := alloc_facts w (.cells #[.string a, .string b] 24)
  obtain ⟨n0, n1⟩ := blk2 hblk
  obtain ⟨r, hr⟩ : ∃ r, ixN l a b 0 = r := ⟨_, rfl⟩
  have HR := Lib.hid hr
  have HD : Hid (decide (0 ≤ r) = inNs l a b) := Lib.hid (by rw [← hr]; exact ixN_has l a b 0)
  have HI : Hid (Calls Tryz.prog 89 #[.slice A n c, .agg #[.string a, .string b]] w1 fun e w' => e = .returned (.int .i64 r) ∧ Below w1.heap.size w1 w') := Lib.hid (by rw [← hr]; exact index_any a b l A n c w1 _ (hrow.below hb1) hn)
  clear hr hblk hrow0
  go_enter Tryz.func70, Tryz.ntmps70
  go_wp2_with fail
  refine HI.out.mono ?_
  rintro e w2 ⟨rfl, hb2⟩
  go_wp2_with fail
  go_ret
  exact ⟨ret_bool HD.out, hb1.seq hb2⟩
end Go.Proofs.YtfildbkkmnfekaaGreatDoor
