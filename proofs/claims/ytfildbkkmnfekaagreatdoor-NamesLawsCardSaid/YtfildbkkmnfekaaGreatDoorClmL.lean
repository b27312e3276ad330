/-
  Proved: for every input gabaritlaw01.NamesLaws returns true, and its arguments read behind the call as they read before: that is: two classes have the same set exactly if their normal classes are equal, a name is in Join, Meet and Minus as it should be, and Witness, Empty, Includes and Overlap agree. Conditions: those of the row: three tables of Go's library (math/bits.deBruijn32tab, deBruijn64tab, internal/strconv.uint64pow10) hold what their text lays.
-/
import Derived.Test.YtfildbkkmnfekaaGreatDoorOpnA
import Derived.Test.YtfildbkkmnfekaaGreatDoorLawM
import Derived.WalkKit
import Derived.ProofKit
import Derived.OpenShut
import Derived.Deep.DeepHandedRow
import Derived.Lib.LaidTab
import Derived.Carry
namespace Go.Proofs.YtfildbkkmnfekaaGreatDoor.namesLaws
open Go.ChangeShapes Go.WideShapes Go.ChangeAt Go.RowKit

theorem own : ownKnob Tryz.prog.godebug = none := by kernel_rfl
set_option maxRecDepth 100000 in
theorem contract (H : Type) (enc : TypeId × Value → H) (W : World) (base : Nat) (args : Array Value) (ds gs : List (DataW H)) (before : List MemPlace)
    (hval : ∀ (j : Nat) t v, Tryz.f6.params[j]? = some t → args[j]? = some v → Value.okWide Tryz.prog W .any base t v)
    (hW : DataW.Whole enc Tryz.prog Tryz.f6.params.toList Rows.namesLawsSpec.vars false W args.toList ds gs before)
    (hsz : (DataW.weightsEach Tryz.prog (Tryz.f6.params.toList ++ (OpenSpec.ofChange Rows.namesLawsSpec).bare.plain.varTypes Tryz.prog) (ds ++ gs)).all (· ≤ reachBytes) = true) (hL : laidMetH Tryz.prog Rows.namesLawsRow.laid W) :
    Calls Tryz.prog 6 args W fun e W' => ∃ v, e = .returned v ∧ Rows.namesLawsSpec.post enc Tryz.prog Tryz.f6 false true false false W args v W' := by
  have hW' := hW
  obtain ⟨p, q, hA0, hV, rfl, hfz, hnd⟩ := hW
  have hA : DataW.TrodAll enc Tryz.prog W 0 (fun _ => true) true Tryz.f6.params.toList args.toList ds p := hA0
  rw [Tryz.params6] at hA hval hsz
  obtain ⟨v0, vs0, d0, ds0, p0, q0, hargs, rfl, rfl, h0, r0⟩ := trodAll_cons hA
  obtain ⟨v1, vs1, d1, ds1, p1, q1, rfl, rfl, rfl, h1, r1⟩ := trodAll_cons r0
  obtain ⟨v2, vs2, d2, ds2, p2, q2, rfl, rfl, rfl, h2, r2⟩ := trodAll_cons r1
  obtain ⟨rfl, rfl, rfl⟩ := trodAll_nil r2
  obtain rfl : args = #[v0, v1, v2] := by cases args; simp_all
  obtain ⟨rfl, rfl⟩ := trodVars_none hV
  have hwt : ∀ (j : Nat) (t : TypeId) (d : DataW H), [28, 28, 24][j]? = some t → [d0, d1, d2][j]? = some d → ∀ k ∈ d.weights Tryz.prog t, k ≤ reachBytes := by
    intro j t d ht hd k hk
    have hj : j < 3 := (List.getElem?_eq_some_iff.1 ht).1
    have := List.all_eq_true.1 hsz k (DataW.weights_mem_each (j := j) (t := t) (d := d) (by show ([28, 28, 24] ++ _)[j]? = some t; rw [List.getElem?_append_left hj]; exact ht) (by show ([d0, d1, d2] ++ _)[j]? = some d; rw [List.getElem?_append_left hj]; exact hd) k hk)
    simpa using this
  have k0 := hval 0 28 v0 rfl rfl
  have k1 := hval 1 28 v1 rfl rfl
  have k2 := hval 2 24 v2 rfl rfl
  have g0 := hwt 0 28 d0 rfl rfl
  have g1 := hwt 1 28 d1 rfl rfl
  obtain ⟨c1, cs1, rfl, hr1⟩ := open_cls lays k0 h0 g0
  obtain ⟨c2, cs2, rfl, hr2⟩ := open_cls lays k1 h1 g1
  obtain ⟨a, b, rfl⟩ := open_nm lays k2 h2
  have hl := hW'.lt
  refine (NamesLaws_any c1 c2 cs1 cs2 a b W _ _ hr1 hr2 (tab_of_laid (show laidMetH Tryz.prog Rows.namesSetsRow.laid W from hL))).mono fun e W' ⟨he, hb⟩ => ?_
  subst he
  have st : ∀ (sp : Nat → Bool) {t : TypeId} {v : Value} {d : DataW H} {ps : List MemPlace} (_ : Tryz.prog.readableRec t = true) (_ : t < Tryz.prog.types.size) (_ : DataW.Trod enc Tryz.prog W 0 (fun _ => true) true t v d ps) (_ : ∀ x ∈ ps, x.block < W.heap.size) (_ : ∀ x ∈ ps, sp x.block = true), DataW.Trod enc Tryz.prog W' 0 sp true t v d ps :=
    fun sp {t v d ps} hr hrow h hlt hsp => WideElems.Trod_stays laidOut hr hrow h (fun x hx => hb.same (hlt x hx)) hsp
  refine ⟨_, rfl, post_below (pa := p0 ++ (p1 ++ (p2 ++ []))) (pv := []) hW' (fun _ _ _ => trodAll_cons_mk (shut_bool Tryz.underlying4 _) trodAll_mk0)
    (fun sp hsp => trodAll_cons_mk (st sp (by kernel_rfl) (of_decide_eq_true (by kernel_rfl)) h0 (fun x hx => hl x (by simp [hx])) (fun x hx => hsp x (by simp [hx])))
      (trodAll_cons_mk (st sp (by kernel_rfl) (of_decide_eq_true (by kernel_rfl)) h1 (fun x hx => hl x (by simp [hx])) (fun x hx => hsp x (by simp [hx])))
        (trodAll_cons_mk (st sp (by kernel_rfl) (of_decide_eq_true (by kernel_rfl)) h2 (fun x hx => hl x (by simp [hx])) (fun x hx => hsp x (by simp [hx]))) trodAll_mk0)))
    (fun _ _ => rfl) (by simp) hb (ok_one (by kernel_rfl) rfl (okWide_bool_mk Tryz.underlying4 _))⟩

theorem reads (os : Os) {H : Type} (enc : TypeId × Value → H) : ∃ places, DataW.whole enc Tryz.prog ((laidWorld os #[cz, cz, nz]).forCall (fun _ _ => 0) ⟨#[], #[cz, cz, nz], []⟩).memory Tryz.f6.params.toList Rows.namesLawsSpec.vars false (#[cz, cz, nz] : Array Value).toList 8 = some ([.agg [.lit (.int .i64 0), .agg [.lit (.string []), .lit (.string [])], .lit (.string []), .nil, .nil], .agg [.lit (.int .i64 0), .agg [.lit (.string []), .lit (.string [])], .lit (.string []), .nil, .nil], .agg [.lit (.string []), .lit (.string [])]], [], places) :=
  ⟨[], by kernel_rfl⟩
set_option maxRecDepth 100000 in
theorem lifted (os : Os) (started : os.Started) (H : Type) (enc : TypeId × Value → H) (F : Stop.Interp) :
    ReturnsInHanded {} Tryz.checked os 6 .any ((OpenSpec.ofChange Rows.namesLawsSpec).preRow enc Tryz.prog Tryz.f6 Rows.namesLawsRow.domain false Rows.namesLawsRow.laid) (((OpenSpec.ofChange Rows.namesLawsSpec).at F).post enc Tryz.prog Tryz.f6 false true false false) := by
  obtain ⟨places, hx⟩ := reads os enc
  refine returnsInHanded_of_row (C := Tryz.checked) (s := OpenSpec.ofChange Rows.namesLawsSpec) own started (by kernel_rfl) Tryz.func6
    (witness_row_at (enc := enc) (C := Tryz.checked) false (laidWorld os #[cz, cz, nz]) #[cz, cz, nz] rfl (by kernel_rfl) (by kernel_rfl) (by kernel_rfl)
      (OpenSpec.preRow_of_cond 8 hx (by kernel_rfl) (fun k hk => by cases hk) (by kernel_rfl) (laidMet_of_run' 8 (by kernel_rfl) (by kernel_rfl)))) ?_
  intro W base args ds gs before hval hW _ _ hsz hL _ _
  exact contract H enc W base args ds gs before hval hW hsz hL
theorem said : Rows.NamesLawsSaid :=
  OpenClaim.holds_of_cond 6 Tryz.f6 rfl rfl rfl rfl rfl rfl rfl ⟨rfl, rfl, rfl, rfl, rfl⟩ rfl rfl rfl rfl rfl (by kernel_rfl) Tryz.func6 (by kernel_rfl)
    (of_decide_eq_true (by kernel_rfl)) (by unfold Func.isWrapper; first | (rw [if_pos (by decide +kernel)]; kernel_rfl) | (rw [if_neg (by decide +kernel)]; exact ⟨rfl, rfl⟩))
    (fun os started H enc _ F => by rw [OpenClaim.pre_eq_preRow]; exact lifted os started H enc F)
/-- No parameter wants a stand-in; the program's own looks are off. -/
theorem plain (f : FuncId) (fn : Func) (hf : Tryz.pinned.checked.prog.funcNamed "gabarit/gabaritlaw01.NamesLaws" = some f) (hfn : Tryz.pinned.checked.prog.funcs[f]? = some fn) :
    false = Tryz.pinned.checked.prog.looks [] ∧ ∀ (j : Nat) t, fn.params[j]? = some t → Tryz.pinned.checked.prog.wantsStandIn t = false := by
  obtain rfl : f = 6 := Option.some.inj ((show Tryz.prog.funcNamed "gabarit/gabaritlaw01.NamesLaws" = some 6 by kernel_rfl).symm.trans hf) |>.symm
  obtain rfl : fn = Tryz.f6 := (Option.some.inj (Tryz.func6.symm.trans hfn)).symm
  refine ⟨by kernel_rfl, fun j t ht => ?_⟩
  rw [Tryz.params6] at ht
  have hm := Array.mem_of_getElem? ht
  simp only [List.mem_toArray, List.mem_cons, List.not_mem_nil, or_false] at hm
  rcases hm with rfl | rfl | rfl
  · exact (show Tryz.prog.wantsStandIn 28 = false by kernel_rfl)
  · exact (show Tryz.prog.wantsStandIn 28 = false by kernel_rfl)
  · exact (show Tryz.prog.wantsStandIn 24 = false by kernel_rfl)
theorem card : Rows.NamesLawsCardSaid :=
  Claim7.holds_tied_plain_at .later [] _ _ _ _ said (fun _ h => by cases h) (by kernel_rfl) (fun _ h => by cases h) namesLaws_row_tie rfl ⟨rfl, rfl⟩ (by kernel_rfl) rfl plain (by kernel_rfl)
end Go.Proofs.YtfildbkkmnfekaaGreatDoor.namesLaws
namespace Go.Proofs.YtfildbkkmnfekaaGreatDoor
theorem namesLaws_holds : Rows.NamesLawsCardSaid := namesLaws.card
end Go.Proofs.YtfildbkkmnfekaaGreatDoor
