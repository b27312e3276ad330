/- Reading the arguments of the laws: classes and names; the table; the row's last step. -/
import Derived.Test.YtfildbkkmnfekaaGreatDoorCards
import Derived.Test.YtfildbkkmnfekaaGreatDoorTie
import Derived.Test.YtfildbkkmnfekaaGreatDoorNumIt
import Derived.Test.YtfildbkkmnfekaaGreatDoorDatA
import Derived.Test.YtfildbkkmnfekaaGreatDoorG20
import Derived.Test.YtfildbkkmnfekaaGreatDoorAppA
import Derived.WalkKit
import Derived.ProofKit
import Derived.OpenShut
import Derived.Deep.DeepHandedRow
import Derived.Lib.LaidTab
import Derived.Carry
import Derived.SizedLaws
import Derived.Below
import Derived.ChangeSame
namespace Go.Proofs.YtfildbkkmnfekaaGreatDoor
open Go.ChangeShapes Go.WideShapes Go.ChangeAt Go.RowKit

theorem cell28 : Tryz.prog.cellsOf 28 = 6 := by kernel_rfl
theorem cell24 : Tryz.prog.cellsOf 24 = 2 := by kernel_rfl
theorem cell22 : Tryz.prog.cellsOf 22 = 1 := by kernel_rfl
theorem cell9 : Tryz.prog.cellsOf 9 = 1 := by kernel_rfl
theorem cell3 : Tryz.prog.cellsOf 3 = 1 := by kernel_rfl
theorem byte28 : Tryz.prog.bytesOf 28 = 104 := by kernel_rfl
theorem byte24 : Tryz.prog.bytesOf 24 = 32 := by kernel_rfl
theorem laidOut : laidOutB Tryz.prog = true := by kernel_rfl
theorem exists_list {α : Type} {Q : Nat → α → Prop} : ∀ n : Nat, (∀ i, i < n → ∃ a, Q i a) → ∃ l : List α, l.length = n ∧ ∀ i a, l[i]? = some a → Q i a
  | 0, _ => ⟨[], rfl, fun i a h => by simp at h⟩
  | n + 1, h => by
    obtain ⟨l, h1, h2⟩ := exists_list n (fun i hi => h i (by omega))
    obtain ⟨a, ha⟩ := h n (by omega)
    refine ⟨l ++ [a], by simp [h1], fun i b hb => ?_⟩
    rcases Nat.lt_or_ge i l.length with hi | hi
    · rw [List.getElem?_append_left hi] at hb; exact h2 i b hb
    · rw [List.getElem?_append_right hi] at hb
      have hlt := (List.getElem?_eq_some_iff.1 hb).1
      simp at hlt
      have e : i = n := by omega
      subst e
      rw [h1, Nat.sub_self] at hb
      obtain rfl : a = b := by simpa using hb
      exact ha
/-- How the types of the laws' arguments lie. -/
structure Lays (P : Program) : Prop where
  u28 : P.underlying 28 = some (.struct #[{ name := "Kind", type := 3, offset := 0, embedded := false, tag := "", pkgPath := "", byteOffset := 0 }, { name := "Name", type := 24, offset := 1, embedded := false, tag := "", pkgPath := "", byteOffset := 8 }, { name := "Space", type := 9, offset := 3, embedded := false, tag := "", pkgPath := "", byteOffset := 40 }, { name := "Except", type := 22, offset := 4, embedded := false, tag := "", pkgPath := "", byteOffset := 56 }, { name := "Args", type := 22, offset := 5, embedded := false, tag := "", pkgPath := "", byteOffset := 80 }])
  u24 : P.underlying 24 = some (.struct #[{ name := "Space", type := 9, offset := 0, embedded := false, tag := "", pkgPath := "", byteOffset := 0 }, { name := "Local", type := 9, offset := 1, embedded := false, tag := "", pkgPath := "", byteOffset := 16 }])
  u22 : P.underlying 22 = some (.slice 28)
  u48 : P.underlying 48 = some (.slice 24)
  u9 : P.underlying 9 = some .string
  u3 : P.underlying 3 = some (.int .i64)
  c28 : P.cellsOf 28 = 6
  c24 : P.cellsOf 24 = 2
  c22 : P.cellsOf 22 = 1
  c9 : P.cellsOf 9 = 1
  c3 : P.cellsOf 3 = 1
  b28 : P.bytesOf 28 = 104
  b24 : P.bytesOf 24 = 32
theorem lays : Lays Tryz.prog := ⟨Tryz.underlying28, Tryz.underlying24, Tryz.underlying22, Tryz.underlying48, Tryz.underlying9, Tryz.underlying3, cell28, cell24, cell22, cell9, cell3, byte28, byte24⟩
section Read
variable {P : Program}
variable {H : Type} {enc : TypeId × Value → H} {W : World} {base : Nat} {sp : Nat → Bool} {held : Bool}
theorem str_of_trod (Y : Lays P) {n : Nat} {u : Value} {x : DataW H × List MemPlace} (h : DataW.trod enc P W base sp held n 9 [u] = some x) : ∃ s : ByteArray, u = .string s := by
  obtain ⟨s, h1, _⟩ := DataW.trod_string Y.u9 h
  exact ⟨s, by simpa using h1⟩
theorem name_of_trod (Y : Lays P) {n : Nat} {cs : List Value} {x : DataW H × List MemPlace} (h : DataW.trod enc P W base sp held n 24 cs = some x) : ∃ a b : ByteArray, cs = [.string a, .string b] := by
  obtain ⟨y0, y1, m, _, hl, h0, h1⟩ := trod_struct2 Y.u24 h
  rw [Y.c24] at hl
  match cs, hl with
  | [u, v], _ =>
    simp only [Y.c9, List.drop_zero, List.take_succ_cons, List.take_zero, List.drop_succ_cons] at h0 h1
    obtain ⟨a, rfl⟩ := str_of_trod Y h0
    obtain ⟨b, rfl⟩ := str_of_trod Y h1
    exact ⟨a, b, rfl⟩
theorem weightsAll_mem {e : TypeId} {d : DataW H} : ∀ {l : List (DataW H)}, d ∈ l → ∀ k ∈ d.weights P e, k ∈ DataW.weightsAll P e l
  | c :: l, hd, k, hk => by
    rw [DataW.weightsAll, List.mem_append]
    rcases List.mem_cons.1 hd with rfl | hd
    · exact .inl hk
    · exact .inr (weightsAll_mem hd k hk)
theorem RepR.of_get {F : Nat → Prop} {l : List Cls} {b off : Nat} (h : ∀ i c, l[i]? = some c → ∃ cs, CellsAt W b (off + i * 6) cs ∧ RepC W F c cs) : RepR W F l b off := by
  rw [repR_iff]
  refine RepRow.of_get fun i e he => ?_
  rw [List.getElem?_map] at he
  cases hc : l[i]? with
  | none => rw [hc] at he; cases he
  | some c =>
    rw [hc] at he
    obtain rfl : clsD c = e := by simpa using he
    obtain ⟨cs, h1, h2⟩ := h i c hc
    exact ⟨cs, h1, (repC_iff _ _ _ _).1 h2⟩
/-- The elements that a slice's reading met. -/
theorem elems_spot {n : Nat} {e : TypeId} {a : Addr} {y : DataW H × List MemPlace} (hk : 0 < P.cellsOf e) (h : (W.cells? base (a.add (0 * P.cellsOf e)) (P.cellsOf e)).bind (DataW.trod enc P W base sp held n e) = some y) : a.spot = none := by
  obtain ⟨cs, h1, h2⟩ := Option.bind_eq_some_iff.1 h
  obtain ⟨hb, hl, hc⟩ := World.cells?_some h1
  have h0 := hc 0 hk
  cases h3 : cs[0]? with
  | none => rw [List.getElem?_eq_none_iff] at h3; omega
  | some v =>
    rw [h3] at h0
    simpa [Addr.add] using World.cell?_spot h0
theorem elems_at {n : Nat} {e : TypeId} {blk off k : Nat} {y : DataW H × List MemPlace} (h : (W.cells? base ((⟨blk, off, none⟩ : Addr).add (k * P.cellsOf e)) (P.cellsOf e)).bind (DataW.trod enc P W base sp held n e) = some y) :
    ∃ cs, CellsAt W blk (off + k * P.cellsOf e) cs ∧ DataW.trod enc P W base sp held n e cs = some y := by
  obtain ⟨cs, h1, h2⟩ := Option.bind_eq_some_iff.1 h
  obtain ⟨hb, hl, hc⟩ := World.cells?_some h1
  refine ⟨cs, fun j v hv => ?_, h2⟩
  have hj : j < cs.length := (List.getElem?_eq_some_iff.1 hv).1
  have := hc j (by omega)
  rw [hv, add_cells, add_cells] at this
  exact this
/-- What reads as a class is a class. -/
theorem cls_of_trod (Y : Lays P) : ∀ (n : Nat) (cs : List Value) (x : DataW H × List MemPlace), DataW.trod enc P W base sp held n 28 cs = some x → (∀ k ∈ x.1.weights P 28, k ≤ reachBytes) → ∃ c, RepC W (fun _ => True) c cs := by
  intro n
  induction n using Nat.strongRecOn with
  | _ n ih =>
    intro cs x h hw
    obtain ⟨xs, m, hnm, rfl, hl, hlen, hf⟩ := DataW.trod_struct Y.u28 h
    rw [Y.c28] at hl
    have hlen' : xs.length = 5 := hlen
    match cs, hl, xs, hlen' with
    | [u0, u1, u2, u3, u4, u5], _, [y0, y1, y2, y3, y4], _ =>
      have h0 : DataW.trod enc P W base sp held m 3 (([u0, u1, u2, u3, u4, u5].drop 0).take (P.cellsOf 3)) = some y0 := hf 0 _ rfl
      have h1 : DataW.trod enc P W base sp held m 24 (([u0, u1, u2, u3, u4, u5].drop 1).take (P.cellsOf 24)) = some y1 := hf 1 _ rfl
      have h2 : DataW.trod enc P W base sp held m 9 (([u0, u1, u2, u3, u4, u5].drop 3).take (P.cellsOf 9)) = some y2 := hf 2 _ rfl
      have h3 : DataW.trod enc P W base sp held m 22 (([u0, u1, u2, u3, u4, u5].drop 4).take (P.cellsOf 22)) = some y3 := hf 3 _ rfl
      have h4 : DataW.trod enc P W base sp held m 22 (([u0, u1, u2, u3, u4, u5].drop 5).take (P.cellsOf 22)) = some y4 := hf 4 _ rfl
      simp only [Y.c3, Y.c24, Y.c9, Y.c22, List.drop_zero, List.take_succ_cons, List.take_zero, List.drop_succ_cons] at h0 h1 h2 h3 h4
      obtain ⟨k, e0, -, -⟩ := DataW.trod_int Y.u3 h0
      obtain ⟨a, b, e1⟩ := name_of_trod Y h1
      obtain ⟨s, rfl⟩ := str_of_trod Y h2
      simp only [List.cons.injEq, and_true] at e0 e1
      subst e0
      obtain ⟨rfl, rfl⟩ := e1
      simp only [DataW.weights, Y.u28, List.map_cons, List.map_nil, DataW.weightsEach, List.append_nil, List.mem_append] at hw
      have key : ∀ (u : Value) (y : DataW H × List MemPlace), DataW.trod enc P W base sp held m 22 [u] = some y → (∀ k ∈ y.1.weights P 22, k ≤ reachBytes) →
          ∃ (l : List Cls) (A : Option Addr) (c : Nat), u = .slice A l.length c ∧ l.length < 2000000000000 ∧ (0 < l.length → ∃ b off, A = some ⟨b, off, none⟩ ∧ True ∧ RepR W (fun _ => True) l b off) := by
        intro u y hy hwy
        rcases DataW.trod_slice Y.u22 hy with ⟨e, -⟩ | ⟨ad, len, cap, elems, rest, m2, hm2, e, rfl, -, hlc, hcm, hel, hat, -, -⟩
        · simp only [List.cons.injEq, and_true] at e
          exact ⟨[], none, 0, e, by simp, fun hp => by simp at hp⟩
        · simp only [List.cons.injEq, and_true] at e
          have hbd : len < 2000000000000 := by
            have h9 := hwy ((elems.length + rest.length) * 104) (by simp [DataW.weights, Y.u22, Y.b28])
            unfold reachBytes at h9
            rw [hel] at h9
            omega
          by_cases hl0 : len = 0
          · subst hl0
            exact ⟨[], some ad, cap, e, by simp, fun hp => by simp at hp⟩
          have hsp : ad.spot = none := by
            have h7 := hat 0 (by omega)
            rw [List.getElem?_eq_getElem (show 0 < elems.length by omega)] at h7
            exact elems_spot (by rw [Y.c28]; omega) h7
          obtain ⟨blk, off, spot⟩ := ad
          simp only at hsp
          subst hsp
          have hall : ∀ i, i < len → ∃ c, ∃ cs, CellsAt W blk (off + i * 6) cs ∧ RepC W (fun _ => True) c cs := by
            intro i hi
            have h7 := hat i hi
            rw [List.getElem?_eq_getElem (show i < elems.length by omega)] at h7
            obtain ⟨cs, h9, h10⟩ := elems_at h7
            rw [Y.c28] at h9
            obtain ⟨c, hc⟩ := ih m2 (by omega) cs _ h10 (fun k hk => hwy k (by
              simp only [DataW.weights, Y.u22, List.mem_cons, List.mem_append]
              exact .inr (.inl (weightsAll_mem (List.mem_map.2 ⟨_, List.getElem_mem _, rfl⟩) k hk))))
            exact ⟨c, cs, h9, hc⟩
          obtain ⟨l, hll, hlg⟩ := exists_list len hall
          exact ⟨l, some ⟨blk, off, none⟩, cap, by rw [hll]; exact e, by rw [hll]; exact hbd, fun hp => ⟨blk, off, rfl, trivial, RepR.of_get fun i c hc => hlg i c hc⟩⟩
      obtain ⟨ex, A, c, rfl, hb1, hr1⟩ := key u4 y3 h3 (fun k hk => hw k (by simp [hk]))
      obtain ⟨ar, A', c', rfl, hb2, hr2⟩ := key u5 y4 h4 (fun k hk => hw k (by simp [hk]))
      refine ⟨.mk k a b s ex ar, ?_⟩
      rw [RepC]
      exact ⟨A, c, A', c', rfl, hb1, hb2, hr1, hr2⟩
/-- An argument of type Class. -/
theorem open_cls (Y : Lays P) {v : Value} {d : DataW H} {ps : List MemPlace} (hv : Value.okWide P W .any base 28 v) {base' : Nat} (h : DataW.Trod enc P W base' sp held 28 v d ps) (hw : ∀ k ∈ d.weights P 28, k ≤ reachBytes) : ∃ c cs, v = .agg cs.toArray ∧ RepC W (fun _ => True) c cs := by
  unfold Value.okWide at hv
  rw [Y.u28] at hv
  obtain ⟨cs, rfl, hs, -⟩ := hv
  obtain ⟨n, hn⟩ := h
  obtain ⟨c, hc⟩ := cls_of_trod Y n _ _ hn hw
  exact ⟨c, cs.toList, by simp, by simpa [Value.cells] using hc⟩
theorem open_nm (Y : Lays P) {v : Value} {d : DataW H} {ps : List MemPlace} (hv : Value.okWide P W .any base 24 v) {base' : Nat} (h : DataW.Trod enc P W base' sp held 24 v d ps) : ∃ a b : ByteArray, v = .agg #[.string a, .string b] := by
  unfold Value.okWide at hv
  rw [Y.u24] at hv
  obtain ⟨cs, rfl, hs, -⟩ := hv
  obtain ⟨n, hn⟩ := h
  obtain ⟨a, b, hab⟩ := name_of_trod Y hn
  refine ⟨a, b, ?_⟩
  congr 1
  apply Array.toList_inj.1
  simpa [Value.cells] using hab
end Read
/-- The row's list gives the table. -/
theorem laid_tail {P : Program} {W : World} {x : String × DataW Unit} {rest : List (String × DataW Unit)} (h : laidMet P (x :: rest) W) : laidMet P rest W := by
  obtain ⟨ps, ⟨g, t, cs, fuel, p, q, h1, h2, h3, h4, h5, h6⟩, hn, hc⟩ := h
  subst h6
  exact ⟨q, h5, (List.nodup_append.1 hn).2.1, fun b off hb => hc b off (List.mem_append.2 (.inr hb))⟩
theorem gPowType : (Tryz.prog.globals[1]?).map (·.type) = some 159 := by kernel_rfl
theorem tab_of_laid {W : World} (h : laidMetH Tryz.prog Rows.namesSetsRow.laid W) : Tab W := by
  have h1 : laidMet Tryz.prog Rows.namesSetsRow.laid W := h
  exact Lib.tabIs_of_head (t := 159) (e := 131) (n := 20) gTab gPowType Tryz.underlying159 (by kernel_rfl) (by kernel_rfl) (by kernel_rfl) (laid_tail (laid_tail h1))
theorem post_below {H : Type} {enc : TypeId × Value → H} {P : Program} {f : Func} {s : ChangeSpec} {apart fresh handsOn again : Bool} {W W' : World} {args : Array Value} {v : Value} {ds gs : List (DataW H)} {before pa pv : List MemPlace}
    (hW : DataW.Whole enc P f.params.toList s.vars apart W args.toList ds gs before)
    (hres : ∀ (b : Nat) (sp : Nat → Bool) (hd : Bool), DataW.TrodAll enc P W' b sp hd f.resultTypes.toList (v.resultList f.resultTypes.size) (s.fn H (ds ++ gs)).results [])
    (hargs : ∀ sp : Nat → Bool, (∀ p ∈ before, sp p.block = true) → DataW.TrodAll enc P W' 0 sp true f.params.toList args.toList (s.fn H (ds ++ gs)).args pa)
    (hvars : ∀ sp : Nat → Bool, (∀ p ∈ before, sp p.block = true) → DataW.TrodVars enc P W' sp s.vars (s.fn H (ds ++ gs)).vars pv)
    (hps : before = pa ++ pv) (hb : Below W.heap.size W W')
    (hok : ∀ (j : Nat) (t : TypeId) (r : Value), f.resultTypes[j]? = some t → (v.resultList f.resultTypes.size)[j]? = some r → Value.okWide P W' .any 0 t r) :
    s.post enc P f apart fresh handsOn again W args v W' := by
  have hlt : ∀ p ∈ before, p.block < W.heap.size := fun p hp => hW.lt p hp
  have hold : ∀ p ∈ before, (fun b => decide (b < W.heap.size)) p.block = true := fun p hp => by simpa using hlt p hp
  refine ⟨ds, gs, before, [], pa, pv, hW, hres _ _ _, hargs _ hold, hvars _ hold, World.keptBut_mono (fun p hp => ⟨hp, ?_⟩) (hb.frame (· ∈ before)), fun _ => ?_⟩
  · rw [hps, List.mem_append] at hp
    exact Or.inr hp
  · obtain ⟨_, _, _, _, _, hz, hn⟩ := hW
    refine ⟨hok, _, _, ([] ++ pa) ++ pv, ⟨[] ++ pa, pv, trodAll_append (hargs _ (fun _ _ => rfl)) (hres _ _ _), hvars _ (fun _ _ => rfl), rfl, ?_, ?_⟩, ?_⟩
    · intro b off hp
      have hin : MemPlace.cell b off ∈ before := by rw [hps]; simpa using hp
      rw [hb.frozen (hlt _ hin)]
      exact hz b off hin
    · intro ha
      have := hn ha
      rw [hps] at this
      simpa using this
    · intro p hp _
      rw [hps]
      simpa using hp
def tab32 : List Int := [0, 1, 28, 2, 29, 14, 24, 3, 30, 22, 20, 15, 25, 17, 4, 8, 31, 27, 13, 23, 21, 19, 16, 7, 26, 12, 18, 6, 11, 5, 10, 9]
def tab64 : List Int := [0, 1, 56, 2, 57, 49, 28, 3, 61, 58, 42, 50, 38, 29, 17, 4, 62, 47, 59, 36, 45, 43, 51, 22, 53, 39, 33, 30, 24, 18, 12, 5, 63, 55, 48, 27, 60, 41, 37, 16, 46, 35, 44, 21, 52, 32, 23, 11, 54, 26, 40, 15, 34, 20, 31, 10, 25, 14, 19, 9, 13, 8, 7, 6]
/-- An empty class, an empty name. -/
def cz : Value := .agg #[.int .i64 0, .string ⟨#[]⟩, .string ⟨#[]⟩, .string ⟨#[]⟩, .slice none 0 0, .slice none 0 0]
def nz : Value := .agg #[.string ⟨#[]⟩, .string ⟨#[]⟩]
/-- A world for the witness: the tables hold what their initialisers lay. -/
noncomputable def laidWorld (os : Os) (args : Array Value) : World :=
  let set (h : Array Obj) (g : Nat) (k : IntKind) (zs : List Int) : Array Obj := h.modify g fun
    | .cells _ t frozen => .cells (zs.map fun z => Value.int k z).toArray t frozen
    | o => o
  { World.holding Tryz.prog os ⟨#[], args, []⟩ with heap := set (set (set (World.holding Tryz.prog os ⟨#[], args, []⟩).heap 1 .u64 Lib.pow10Tab) 2 .u8 tab32) 3 .u8 tab64 }
theorem laid_met (os : Os) (args : Array Value) (h : args = #[cz, cz, nz]) : laidMet Tryz.prog Rows.namesSetsRow.laid ((laidWorld os args).forCall (fun _ _ => 0) ⟨#[], args, []⟩).memory := by
  subst h
  exact laidMet_of_run' 8 (by kernel_rfl) (by kernel_rfl)
end Go.Proofs.YtfildbkkmnfekaaGreatDoor
