/-
  Proved: for every input gabaritlaw17.AttributionOnly returns true, and its arguments read behind the call as they read before: where a model is unique, an accepted word has one way through it, and Attribute tells it. Conditions: those of the row: three tables of Go's library (math/bits.deBruijn32tab, deBruijn64tab, internal/strconv.uint64pow10) hold what their text lays.
-/
import Derived.Test.YtgmnnegfndpakaaGreatDoorO3
set_option maxHeartbeats 20000000
set_option maxRecDepth 100000
namespace Go.Proofs.YtgmnnegfndpakaaGreatDoor.attributionOnly
open Go.ChangeShapes Go.WideShapes Go.ChangeAt Go.RowKit
theorem own:ownKnob Tryz.prog.godebug=none:=by kernel_rfl
theorem contract(H:Type)(enc:TypeId×Value->H)(W:World)(base:Nat)(args:Array Value)(ds gs:List (DataW H))(before:List MemPlace)
 (agV:∀(j:Nat) t v,Tryz.f9.params[j]?=some t->args[j]?=some v->Value.okWide Tryz.prog W .any base t v)
 (hW:DataW.Whole enc Tryz.prog Tryz.f9.params.toList Rows.attributionOnlySpec.vars false W args.toList ds gs before)
 (bY:(DataW.weightsEach Tryz.prog (Tryz.f9.params.toList++(OpenSpec.ofChange Rows.attributionOnlySpec).bare.plain.varTypes Tryz.prog) (ds++gs)).all (· <=reachBytes)=true) (hL:laidMetH Tryz.prog Rows.attributionOnlyRow.laid W):
 Cl 9 args W λe W'=>∃v,e= .returned v/\Rows.attributionOnlySpec.post enc Tryz.prog Tryz.f9 false true false false W args v W':=by
 have hW':=hW;obtain⟨p,q,hA0,hV,rfl,hfz,AX⟩:=hW;have hA:DataW.TrodAll enc Tryz.prog W 0 (λ_=>true) true Tryz.f9.params.toList args.toList ds p:=hA0;rw[Tryz.params9] at hA agV bY;obtain⟨v0,vs0,d0,ds0,p0,q0,wF,rfl,rfl,h0,r0⟩:=trodAll_cons hA;obtain⟨v1,vs1,d1,ds1,p1,q1,rfl,rfl,rfl,h1,r1⟩:=trodAll_cons r0;obtain⟨v2,vs2,d2,ds2,p2,q2,rfl,rfl,rfl,h2,r2⟩:=trodAll_cons r1;obtain⟨rfl,rfl,rfl⟩:=trodAll_nil r2;obtain rfl:args= #[v0,v1,v2]:=(by cases args;simp_all);obtain⟨rfl,rfl⟩:=trodVars_none hV
 have hwt:∀(j:Nat) (t:TypeId) (d:DataW H),[29,30,37][j]?=some t->[d0,d1,d2][j]?=some d->∀k∈d.weights Tryz.prog t,k<=reachBytes:=by
  intro j t d ht hd k hk;have hj:j<3:=(z4.1 ht).1;have:=List.all_eq_true.1 bY k (DataW.weights_mem_each (j:=j) (t:=t) (d:=d) (by show ([29,30,37]++_)[j]?=some t;rw[z20 hj];exact ht) (by show ([d0,d1,d2]++_)[j]?=some d;rw[z20 hj];exact hd) k hk);simpa using this
 have k0:=agV 0 29 v0 rfl rfl;have g0:=hwt 0 29 d0 rfl rfl;have k1:=agV 1 30 v1 rfl rfl;have g1:=hwt 1 30 d1 rfl rfl;have k2:=agV 2 37 v2 rfl rfl;have g2:=hwt 2 37 d2 rfl rfl;obtain⟨pt0,cs0,rfl,hr0,hc0⟩:=arX lays k0 h0 g0;obtain⟨el1,eA1,ec1,rfl,yB,BM⟩:=ak3 lays k1 h1 g1;obtain⟨wd2,wA2,wc2,rfl,nJ,hq2,mJ⟩:=aGd lays k2 h2 g2;have hl:=hW'.lt;refine (a3W pt0 el1 wd2 cs0 W eA1 _ ec1 wA2 _ wc2 hr0 hc0 BM yB (amr mJ) nJ hq2 (agZ (show laidMetH Tryz.prog Rows.contentChecksRow.laid W from hL))).mono λe W' ⟨he,hb⟩=>?_;subst he
 have st:∀(sp:Nat->Bool) {t:TypeId} {v:Value} {d:DataW H} {ps:List MemPlace} (_:Tryz.prog.readableRec t=true) (_:t<Tryz.prog.types.size) (_:DataW.Trod enc Tryz.prog W 0 (λ_=>true) true t v d ps) (_:∀x∈ps,x.block<W.heap.size) (_:∀x∈ps,sp x.block=true),DataW.Trod enc Tryz.prog W' 0 sp true t v d ps:=
  λsp {t v d ps} hr aI h aN mM=>WideElems.Trod_stays laidOut hr aI h (λx hx=>hb.same (aN x hx)) mM
 refine⟨_,rfl,ak4 (pa:=p0++(p1++(p2++[]))) (pv:=[]) hW' (λ_ _ _=>trodAll_cons_mk (shut_bool Tryz.underlying4 _) trodAll_mk0)
  (λsp mM=>trodAll_cons_mk (st sp zK (of_decide_eq_true zK) h0 (λx hx=>hl x (by simp[hx])) (λx hx=>mM x (by simp[hx])))
    (trodAll_cons_mk (st sp zK (of_decide_eq_true zK) h1 (λx hx=>hl x (by simp[hx])) (λx hx=>mM x (by simp[hx])))
    (trodAll_cons_mk (st sp zK (of_decide_eq_true zK) h2 (λx hx=>hl x (by simp[hx])) (λx hx=>mM x (by simp[hx])))
    trodAll_mk0)))
  (λ_ _=>rfl) zP hb (ok_one zK rfl (okWide_bool_mk Tryz.underlying4 _))⟩
theorem reads(os:Os){H:Type}(enc:TypeId×Value->H):∃places,DataW.whole enc Tryz.prog ((laidWorld os #[aJs,.slice none 0 0,.slice none 0 0]).forCall (λ_ _=>0) ⟨#[],#[aJs,.slice none 0 0,.slice none 0 0],[]⟩).memory Tryz.f9.params.toList Rows.attributionOnlySpec.vars false (#[aJs,.slice none 0 0,.slice none 0 0]:Array Value).toList 8=some ([pzD,.nil,.nil],[],places):=
 ⟨[],zK⟩
theorem lifted(os:Os)(started:os.Started)(H:Type)(enc:TypeId×Value->H)(F:Stop.Interp):
 ReturnsInHanded {} Tryz.checked os 9 .any ((OpenSpec.ofChange Rows.attributionOnlySpec).preRow enc Tryz.prog Tryz.f9 Rows.attributionOnlyRow.domain false Rows.attributionOnlyRow.laid) (((OpenSpec.ofChange Rows.attributionOnlySpec).at F).post enc Tryz.prog Tryz.f9 false true false false):=by
 obtain⟨places,hx⟩:=reads os enc
 refine returnsInHanded_of_row (C:=Tryz.checked) (s:=OpenSpec.ofChange Rows.attributionOnlySpec) own started zK Tryz.func9
  (witness_row_at (enc:=enc) (C:=Tryz.checked) false (laidWorld os #[aJs,.slice none 0 0,.slice none 0 0]) #[aJs,.slice none 0 0,.slice none 0 0] rfl zK zK zK
    (OpenSpec.preRow_of_cond 8 hx zK (λk hk=>by cases hk) zK (laidMet_of_run' 8 zK zK))) ?_
 intro W base args ds gs before agV hW _ _ bY hL _ _;exact contract H enc W base args ds gs before agV hW bY hL
theorem said:Rows.AttributionOnlySaid:=
 OpenClaim.holds_of_cond 9 Tryz.f9 rfl rfl rfl rfl rfl rfl rfl ⟨rfl,rfl,rfl,rfl,rfl⟩ rfl rfl rfl rfl rfl (by as_aux_lemma=>kernel_rfl) Tryz.func9 (by as_aux_lemma=>kernel_rfl)
  (of_decide_eq_true (by as_aux_lemma=>kernel_rfl)) (by as_aux_lemma=>unfold Func.isWrapper;first | (rw[if_pos (by decide+kernel)];kernel_rfl) | (rw[if_neg (by decide+kernel)];exact⟨rfl,rfl⟩))
  (λos started H enc _ F=>by rw[OpenClaim.pre_eq_preRow];exact lifted os started H enc F)
theorem plain(f:FuncId)(fn:Func)(hf:Tryz.pinned.checked.prog.funcNamed "gabarit/gabaritlaw17.AttributionOnly" =some f)(IU:Tryz.pinned.checked.prog.funcs[f]?=some fn):
 false=Tryz.pinned.checked.prog.looks []/\∀(j:Nat) t,fn.params[j]?=some t->Tryz.pinned.checked.prog.wantsStandIn t=false:=by
 obtain rfl:f=9:=zI ((show Tryz.prog.funcNamed "gabarit/gabaritlaw17.AttributionOnly" =some 9 by kernel_rfl).symm.trans hf) |>.symm;obtain rfl:fn=Tryz.f9:=(zI (Tryz.func9.symm.trans IU)).symm;refine⟨zK,λj t ht=>?_⟩;rw[Tryz.params9] at ht;have hm:=Array.mem_of_getElem? ht;simp only[List.mem_toArray,TT,List.not_mem_nil,or_false] at hm
 rcases hm with rfl | rfl | rfl
 ·exact(show Tryz.prog.wantsStandIn 29=false by kernel_rfl)
 ·exact(show Tryz.prog.wantsStandIn 30=false by kernel_rfl)
 exact(show Tryz.prog.wantsStandIn 37=false by kernel_rfl)
theorem card:Rows.AttributionOnlyCardSaid:=
 Claim7.holds_tied_plain_at .later [] _ _ _ _ said (λ_ h=>by cases h) zK (λ_ h=>by cases h) attributionOnly_row_tie rfl ⟨rfl,rfl⟩ zK rfl plain zK
end Go.Proofs.YtgmnnegfndpakaaGreatDoor.attributionOnly
namespace Go.Proofs.YtgmnnegfndpakaaGreatDoor
theorem attributionOnly_holds:Rows.AttributionOnlyCardSaid:=attributionOnly.card
end Go.Proofs.YtgmnnegfndpakaaGreatDoor
