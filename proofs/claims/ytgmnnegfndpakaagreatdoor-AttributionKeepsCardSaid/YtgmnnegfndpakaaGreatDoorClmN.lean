import Derived.Test.YtgmnnegfndpakaaGreatDoorAtnA
set_option maxHeartbeats 20000000
set_option maxRecDepth 100000
namespace Go.Proofs.YtgmnnegfndpakaaGreatDoor
namespace aK
open Go.ChangeShapes Go.WideShapes Go.ChangeAt Go.RowKit
theorem own:ownKnob Tryz.prog.godebug=none:=by kernel_rfl
theorem ct(H:Type)(enc:TypeId×Value->H)(W:World)(base:Nat)(ar:Array Value)(ds gs:List (DataW H))(bf:List MemPlace)
 (agV:∀(j:Nat) t v,Tryz.f10.params[j]?=some t->ar[j]?=some v->Value.okWide Tryz.prog W .any base t v)
 (hW:DataW.Whole enc Tryz.prog Tryz.f10.params.toList Rows.attributionKeepsSpec.vars false W ar.toList ds gs bf)
 (bY:(DataW.weightsEach Tryz.prog (Tryz.f10.params.toList++(OpenSpec.ofChange Rows.attributionKeepsSpec).bare.plain.varTypes Tryz.prog) (ds++gs)).all (· <=reachBytes)=true) (hL:laidMetH Tryz.prog Rows.attributionKeepsRow.laid W):
 Cl 10 ar W λe W'=>∃v,e= .returned v/\Rows.attributionKeepsSpec.post enc Tryz.prog Tryz.f10 false true false false W ar v W':=by
 have hW':=hW;obtain⟨p,q,hA0,hV,rfl,hfz,AX⟩:=hW;have hA:DataW.TrodAll enc Tryz.prog W 0 (λ_=>true) true Tryz.f10.params.toList ar.toList ds p:=hA0;rw[Tryz.params10] at hA agV bY;obtain⟨v0,vs0,d0,ds0,p0,q0,wF,rfl,rfl,h0,r0⟩:=trodAll_cons hA;obtain⟨v1,vs1,d1,ds1,p1,q1,rfl,rfl,rfl,h1,r1⟩:=trodAll_cons r0;obtain⟨rfl,rfl,rfl⟩:=trodAll_nil r1;obtain rfl:ar= #[v0,v1]:=(by cases ar;simp_all);obtain⟨rfl,rfl⟩:=trodVars_none hV
 have hwt:∀(j:Nat) (t:TypeId) (d:DataW H),[29,30][j]?=some t->[d0,d1][j]?=some d->∀k∈d.weights Tryz.prog t,k<=reachBytes:=by
  intro j t d ht hd k hk;have hj:j<2:=(z4.1 ht).1;have:=List.all_eq_true.1 bY k (DataW.weights_mem_each (j:=j) (t:=t) (d:=d) (by show ([29,30]++_)[j]?=some t;rw[z20 hj];exact ht) (by show ([d0,d1]++_)[j]?=some d;rw[z20 hj];exact hd) k hk);simpa using this
 have k0:=agV 0 29 v0 rfl rfl;have g0:=hwt 0 29 d0 rfl rfl;have k1:=agV 1 30 v1 rfl rfl;have g1:=hwt 1 30 d1 rfl rfl;obtain⟨pt0,cs0,rfl,hr0,-⟩:=arX lays k0 h0 g0;obtain⟨el1,eA1,ec1,rfl,yB,BM⟩:=ak3 lays k1 h1 g1;have hl:=hW'.lt;refine (aYq pt0 el1 cs0 W eA1 _ ec1 hr0 BM yB (agZ (show laidMetH Tryz.prog Rows.contentChecksRow.laid W from hL))).mono λe W' ⟨he,hb⟩=>?_;subst he
 have st:∀(sp:Nat->Bool) {t:TypeId} {v:Value} {d:DataW H} {ps:List MemPlace} (_:Tryz.prog.readableRec t=true) (_:t<Tryz.prog.types.size) (_:DataW.Trod enc Tryz.prog W 0 (λ_=>true) true t v d ps) (_:∀x∈ps,x.block<W.heap.size) (_:∀x∈ps,sp x.block=true),DataW.Trod enc Tryz.prog W' 0 sp true t v d ps:=
  λsp {t v d ps} hr aI h aN mM=>WideElems.Trod_stays laidOut hr aI h (λx hx=>hb.same (aN x hx)) mM
 refine⟨_,rfl,ak4 (pa:=p0++(p1++[])) (pv:=[]) hW' (λ_ _ _=>trodAll_cons_mk (shut_bool Tryz.underlying4 _) trodAll_mk0)
  (λsp mM=>trodAll_cons_mk (st sp zK (of_decide_eq_true zK) h0 (λx hx=>hl x (by simp[hx])) (λx hx=>mM x (by simp[hx])))
    (trodAll_cons_mk (st sp zK (of_decide_eq_true zK) h1 (λx hx=>hl x (by simp[hx])) (λx hx=>mM x (by simp[hx])))
    trodAll_mk0))
  (λ_ _=>rfl) zP hb (ok_one zK rfl (okWide_bool_mk Tryz.underlying4 _))⟩
theorem reads(os:Os){H:Type}(enc:TypeId×Value->H):∃pq,DataW.whole enc Tryz.prog ((laidWorld os #[aJs,.slice none 0 0]).forCall (λ_ _=>0) ⟨#[],#[aJs,.slice none 0 0],[]⟩).memory Tryz.f10.params.toList Rows.attributionKeepsSpec.vars false (#[aJs,.slice none 0 0]:Array Value).toList 8=some ([pzD,.nil],[],pq):=
 ⟨[],zK⟩
theorem lf(os:Os)(sd:os.Started)(H:Type)(enc:TypeId×Value->H)(F:Stop.Interp):
 ReturnsInHanded {} Tryz.checked os 10 .any ((OpenSpec.ofChange Rows.attributionKeepsSpec).preRow enc Tryz.prog Tryz.f10 Rows.attributionKeepsRow.domain false Rows.attributionKeepsRow.laid) (((OpenSpec.ofChange Rows.attributionKeepsSpec).at F).post enc Tryz.prog Tryz.f10 false true false false):=by
 obtain⟨pq,hx⟩:=reads os enc
 refine returnsInHanded_of_row (C:=Tryz.checked) (s:=OpenSpec.ofChange Rows.attributionKeepsSpec) own sd zK Tryz.func10
  (witness_row_at (enc:=enc) (C:=Tryz.checked) false (laidWorld os #[aJs,.slice none 0 0]) #[aJs,.slice none 0 0] rfl zK zK zK
    (OpenSpec.preRow_of_cond 8 hx zK (λk hk=>by cases hk) zK (laidMet_of_run' 8 zK zK))) ?_
 intro W base ar ds gs bf agV hW _ _ bY hL _ _;exact ct H enc W base ar ds gs bf agV hW bY hL
theorem said:Rows.AttributionKeepsSaid:=
 OpenClaim.holds_of_cond 10 Tryz.f10 rfl rfl rfl rfl rfl rfl rfl ⟨rfl,rfl,rfl,rfl,rfl⟩ rfl rfl rfl rfl rfl (by as_aux_lemma=>kernel_rfl) Tryz.func10 (by as_aux_lemma=>kernel_rfl)
  (of_decide_eq_true (by as_aux_lemma=>kernel_rfl)) (by as_aux_lemma=>unfold Func.isWrapper;first | (rw[if_pos (by decide+kernel)];kernel_rfl) | (rw[if_neg (by decide+kernel)];exact⟨rfl,rfl⟩))
  (λos sd H enc _ F=>by rw[OpenClaim.pre_eq_preRow];exact lf os sd H enc F)
theorem plain(f:FuncId)(fn:Func)(hf:Tryz.pinned.checked.prog.funcNamed "gabarit/gabaritlaw17.AttributionKeeps" =some f)(IU:Tryz.pinned.checked.prog.funcs[f]?=some fn):
 false=Tryz.pinned.checked.prog.looks []/\∀(j:Nat) t,fn.params[j]?=some t->Tryz.pinned.checked.prog.wantsStandIn t=false:=by
 obtain rfl:f=10:=zI ((show Tryz.prog.funcNamed "gabarit/gabaritlaw17.AttributionKeeps" =some 10 by kernel_rfl).symm.trans hf) |>.symm;obtain rfl:fn=Tryz.f10:=(zI (Tryz.func10.symm.trans IU)).symm;refine⟨zK,λj t ht=>?_⟩;rw[Tryz.params10] at ht;have hm:=Array.mem_of_getElem? ht;simp only[List.mem_toArray,TT,List.not_mem_nil,or_false] at hm
 rcases hm with rfl | rfl
 ·exact(show Tryz.prog.wantsStandIn 29=false by kernel_rfl)
 exact(show Tryz.prog.wantsStandIn 30=false by kernel_rfl)
theorem card:Rows.AttributionKeepsCardSaid:=
 Claim7.holds_tied_plain_at .later [] _ _ _ _ said (λ_ h=>by cases h) zK (λ_ h=>by cases h) attributionKeeps_row_tie rfl ⟨rfl,rfl⟩ zK rfl plain zK
end aK
theorem attributionKeeps_holds:Rows.AttributionKeepsCardSaid:=aK.card
end Go.Proofs.YtgmnnegfndpakaaGreatDoor
