import Derived.Test.YtgmnnegfndpakaaGreatDoorH29
set_option maxHeartbeats 20000000
set_option maxRecDepth 100000
namespace Go.Proofs.YtgmnnegfndpakaaGreatDoor
open Go.RowKit
def Edge(m:eQ)(s t:Nat):Prop:=∃x∈gK m s,Hr m.elems x.leaf=true/\x.dst=t
inductive Reach (m:eQ):Nat->Nat->Prop
 | refl (s:Nat):Reach m s s
 | tail {s t u:Nat}:Reach m s t->Edge m t u->Reach m s u
theorem Reach.trans{m:eQ}{s t u:Nat}(h:Reach m s t)(k:Reach m t u):Reach m s u:=by
 induction k with
 | refl=>exact h
 | tail _ e ih=>exact ih.tail e
theorem Reach.head{m:eQ}{s t u:Nat}(e:Edge m s t)(h:Reach m t u):Reach m s u:=((Reach.refl s).tail e).trans h
theorem agw{m:eQ}{s y:Nat}{st:CQ}{x:Stp}(h:y∈st.list):y∈(oq m s st x).list:=by
 obtain⟨r,hr⟩:=UT (m:=m) (s:=s) (st:=st) (x:=x);rw[hr];exact z12.2 (.inl h)
theorem agx{m:eQ}{s y t:Nat}{st:CQ}{x:Stp}(h:y∈fZ t st.back):y∈fZ t (oq m s st x).back:=by
 unfold oq
 split
 ·dsimp only;rw[KD]
  split
  ·rename_i e;rw[<-e];exact z12.2 (.inl h)
  exact h
 exact h
theorem adv{m:eQ}{s y:Nat}(l:List Stp){st:CQ}(h:y∈st.list):y∈(l.foldl (oq m s) st).list:=by
 obtain⟨r,hr⟩:=Lt (m:=m) (s:=s) l st;rw[hr];exact z12.2 (.inl h)
theorem acv{m:eQ}{s y t:Nat}:∀(l:List Stp) {st:CQ},y∈fZ t st.back->y∈fZ t (l.foldl (oq m s) st).back
 | [],_,h=>h
 | _::l,_,h=>acv l (agx h)
theorem agn{m:eQ}{s:Nat}:∀(l:List Stp) (st:CQ) (x:Stp),x∈l->Hr m.elems x.leaf=true->x.dst∈(l.foldl (oq m s) st).list/\s∈fZ x.dst (l.foldl (oq m s) st).back
 | [],_,_,h,_=>by simp at h
 | y::l,st,x,h,hs=>by
   rw[List.foldl_cons]
   rcases TT.1 h with rfl | h
   ·refine⟨adv l ?_,acv l ?_⟩
    ·unfold oq;rw[if_pos hs];dsimp only
     split
     ·assumption
     exact z12.2 (.inr zP)
    unfold oq;rw[if_pos hs];dsimp only;rw[KD,if_pos rfl];exact z12.2 (.inr zP)
   exact agn l _ x h hs
structure adg (m:eQ) (st:CQ):Prop where
 zero:0∈st.list
 list:∀s∈st.list,Reach m 0 s
 back:∀t s,s∈fZ t st.back->Edge m s t
theorem adg.step{m:eQ}{s:Nat}{st:CQ}(h:adg m st)(hs:Reach m 0 s){x:Stp}(hx:x∈gK m s):adg m (oq m s st x):=by
 refine⟨agw h.zero,λy hy=>?_,λt y hy=>?_⟩
 ·unfold oq at hy
  split at hy
  ·rename_i ve;dsimp only at hy
   split at hy
   ·exact h.list y hy
   rcases z12.1 hy with hy | hy
   ·exact h.list y hy
   rw[og] at hy;subst hy;exact hs.tail ⟨x,hx,ve,rfl⟩
  exact h.list y hy
 unfold oq at hy
 split at hy
 ·rename_i ve;dsimp only at hy;rw[KD] at hy
  split at hy
  ·rename_i e
   rcases z12.1 hy with hy | hy
   ·rw[e];exact h.back _ y hy
   rw[og] at hy;subst hy;exact⟨x,hx,ve,e.symm⟩
  exact h.back t y hy
 exact h.back t y hy
theorem adg.fold{m:eQ}{s:Nat}(hs:Reach m 0 s):∀(l:List Stp) {st:CQ},adg m st->(∀x∈l,x∈gK m s)->adg m (l.foldl (oq m s) st)
 | [],_,h,_=>h
 | x::l,_,h,hl=>adg.fold hs l (h.step hs (hl x zP)) λy hy=>hl y (by simp[hy])
structure LvC (m:eQ) (k:Nat) (st:CQ):Prop where
 snd:adg m st
 done:∀(i s t:Nat),i<k->st.list[i]?=some s->Edge m s t->t∈st.list/\s∈fZ t st.back
theorem LvC.start(m:eQ):LvC m 0 ⟨[0],[]⟩:=⟨⟨zP,λs hs=>by rw[og] at hs;subst hs;exact .refl _,λt s hs=>by simp[fZ] at hs⟩,λi s t hi=>by omega⟩
theorem LvC.next{m:eQ}{k s:Nat}{st:CQ}(h:LvC m k st)(hs:st.list[k]?=some s):LvC m (k+1) ((gK m s).foldl (oq m s) st):=by
 refine⟨adg.fold (h.snd.list s (SK hs)) _ h.snd λx hx=>hx,λi y t hi hy he=>?_⟩;obtain⟨r,hr⟩:=Lt (m:=m) (s:=s) (gK m s) st;have hk:=(z4.1 hs).1;rw[hr,z20 zO] at hy;by_cases e:i=k
 ·subst e;obtain rfl:s=y:=zI (hs.symm.trans hy);obtain⟨x,hx,h1,rfl⟩:=he;exact agn _ _ x hx h1
 obtain⟨h1,h2⟩:=h.done i y t zO hy he;exact⟨adv _ h1,acv _ h2⟩
theorem aqm{m:eQ}(fQ:mQ m)(uw:∀s,(gK m s).length<=300000):∃k,OA m k (gB m)/\LvC m k (gB m)/\k=(gB m).list.length:=by
 have key:∀(d k:Nat) (st:CQ),uf m - k=d->OA m k st->LvC m k st->∃k,OA m k (gB m)/\LvC m k (gB m)/\k=(gB m).list.length:=by
  intro d
  induction d with
  | zero=>
    intro k st hd h1 h2;have h3:=h1.ok.size;have h4:=h1.le;have hk:k=st.list.length:=zO;have he:=h1.stop hk;exact⟨k,he ▸ h1,he ▸ h2,he ▸ hk⟩
  | succ d ih=>
    intro k st hd h1 h2;by_cases hk:k=st.list.length
    ·have he:=h1.stop hk;exact⟨k,he ▸ h1,he ▸ h2,he ▸ hk⟩
    have h4:=h1.le;have hs:st.list[k]?=some (st.list[k]'zO):=z6 zO;exact ih (k+1) _ zO (h1.next fQ uw hs) (h2.next hs)
 exact key _ 0 _ rfl (OA.start m) (LvC.start m)
theorem ajw{m:eQ}(fQ:mQ m)(uw:∀s,(gK m s).length<=300000):(∀s,s∈(gB m).list↔Reach m 0 s)/\∀s t,s∈fZ t (gB m).back↔Reach m 0 s/\Edge m s t:=by
 obtain⟨k,h1,h2,hk⟩:=aqm fQ uw
 have eH:∀s t,s∈(gB m).list->Edge m s t->t∈(gB m).list/\s∈fZ t (gB m).back:=λs t hs he=>by
  obtain⟨i,hi,rfl⟩:=List.mem_iff_getElem.1 hs;exact h2.done i _ t zO (z6 hi) he
 have dW:∀s,Reach m 0 s->s∈(gB m).list:=by
  have key:∀z s,Reach m z s->z∈(gB m).list->s∈(gB m).list:=by
   intro z s h
   induction h with
   | refl=>exact λh=>h
   | tail _ e ih=>exact λhz=>(eH _ _ (ih hz) e).1
  exact λs h=>key 0 s h h2.snd.zero
 refine⟨λs=>⟨h2.snd.list s,dW s⟩,λs t=>⟨λh=>⟨h2.snd.list s (h1.ok.back t s h),h2.snd.back t s h⟩,λh=>(eH s t (dW s h.1) h.2).2⟩⟩
structure DrC (m:eQ) (st:List Nat×List Nat):Prop where
 snd:∀s∈st.1,Reach m 0 s/\∃f,Reach m s f/\wH m f=true
 fin:∀s,Reach m 0 s->wH m s=true->s∈st.1
 done:∀t∈st.1,t∈st.2\/∀s∈fZ t (gB m).back,s∈st.1
theorem aqp{st:List Nat×List Nat}{t y:Nat}(h:y∈st.1):y∈(lU st t).1:=by
 unfold lU
 split
 ·exact h
 exact z12.2 (.inl h)
theorem aqz{st:List Nat×List Nat}{t y:Nat}(h:y∈st.2):y∈(lU st t).2:=by
 unfold lU
 split
 ·exact h
 exact z12.2 (.inl h)
theorem acO{y:Nat}:∀(l:List Nat) {st:List Nat×List Nat},y∈st.1->y∈(l.foldl lU st).1
 | [],_,h=>h
 | _::l,_,h=>acO l (aqp h)
theorem adz{y:Nat}:∀(l:List Nat) {st:List Nat×List Nat},y∈st.2->y∈(l.foldl lU st).2
 | [],_,h=>h
 | _::l,_,h=>adz l (aqz h)
theorem akX:∀(l:List Nat) {st:List Nat×List Nat} {y:Nat},y∈l->y∈(l.foldl lU st).1
 | [],_,_,h=>by simp at h
 | t::l,st,y,h=>by
   rw[List.foldl_cons]
   rcases TT.1 h with rfl | h
   ·refine acO l ?_;unfold lU
    split
    ·assumption
    exact z12.2 (.inr zP)
   exact akX l h
theorem aez:∀(l:List Nat) {st:List Nat×List Nat} {y:Nat},y∈(l.foldl lU st).1->y∈st.1\/(y∈l/\y∈(l.foldl lU st).2)
 | [],_,_,h=>.inl h
 | t::l,st,y,h=>by
   rw[List.foldl_cons] at h ⊢
   rcases aez l h with h1 | ⟨h1,h2⟩
   ·unfold lU at h1
    split at h1
    ·exact .inl h1
    rename_i hn
    rcases z12.1 h1 with h1 | h1
    ·exact .inl h1
    rw[og] at h1;subst h1;refine .inr ⟨zP,adz l ?_⟩;unfold lU;rw[if_neg hn];exact z12.2 (.inr zP)
   exact .inr ⟨List.mem_cons_of_mem _ h1,h2⟩
theorem ajx{s y:Nat}:∀{l:List Nat},l.getLast?=some s->y∈l->y=s\/y∈l.dropLast:=by
 intro l h hy;have dD:l≠[]:=λe=>(by rw[e] at h;cases h);have h1:=List.dropLast_concat_getLast dD;have h2:l.getLast dD=s:=(by rw[List.getLast?_eq_some_getLast dD] at h;exact zI h);rw[<-h1,z12,h2,og] at hy;exact hy.symm
theorem DrC.next{m:eQ}(fQ:mQ m)(uw:∀s,(gK m s).length<=300000){st:List Nat×List Nat}(h:DrC m st){s:Nat}(hs:st.2.getLast?=some s)(nC:s∈st.1):DrC m ((fZ s (gB m).back).foldl lU (st.1,st.2.dropLast)):=by
 obtain⟨-,hb⟩:=ajw fQ uw;refine⟨λy hy=>?_,λy h1 h2=>acO _ (h.fin y h1 h2),λt ht=>?_⟩
 ·rcases aez _ hy with hy | ⟨hy,-⟩
  ·exact h.snd y hy
  obtain⟨h1,h2⟩:=(hb y s).1 hy;obtain⟨-,f,h3,h4⟩:=h.snd s nC;exact⟨h1,f,h3.head h2,h4⟩
 rcases aez _ ht with h1 | ⟨-,h1⟩
 ·rcases h.done t h1 with h2 | h2
  ·rcases ajx hs h2 with rfl | h3
   ·exact .inr λy hy=>akX _ hy
   exact .inl (adz _ h3)
  exact .inr λy hy=>acO _ (h2 y hy)
 exact .inl h1
inductive Way (m:eQ):Nat->List Nm->Nat->Prop
 | nil (s:Nat):Way m s [] s
 | cons {s t:Nat} {n:Nm} {w:List Nm} {x:Stp}:x∈gK m s->Gf m.elems x.leaf n=true->Way m x.dst w t->Way m s (n::w) t
theorem Way.trans{m:eQ}{s t u:Nat}{w v:List Nm}(h:Way m s w t)(k:Way m t v u):Way m s (w++v) u:=by
 induction h with
 | nil=>exact k
 | cons hx ha _ ih=>exact .cons hx ha (ih k)
theorem acy{m:eQ}(dW:m.all=[]){s:Nat}{x:Stp}:x∈gK m s↔∃i q,i∈ku m s/\m.places[i]?=some q/\x=⟨i+1,q.num,q.leaf⟩:=by
 unfold gK;rw[dW];simp only[List.isEmpty_nil,if_true];rw[List.mem_flatMap];constructor
 ·rintro⟨i,hi,h⟩;unfold CP at h
  split at h
  ·rename_i q hq;exact⟨i,q,hi,hq,og.1 h⟩
  simp at h
 rintro⟨i,q,hi,hq,rfl⟩;refine⟨i,hi,?_⟩;unfold CP;rw[hq];simp
section
variable {F:Fence} {n:Nat} {P:Program} {ops:Array Oper} {Q:Exit->Act->World->Prop} {md:Region.Mode} {C:World->Prop} {st:Nat}
theorem aP.Vo{i:Nat}{oi:Oper}{v:Value}(Cf:F.round=none)(hi:ops[i]?=some oi)
 (CW:∀(j:Nat) (o:Oper) cs b,ops[j]?=some o->o.op≠.select cs b) (hQ:∀c a w,Q (.panic c) (a.put oi.dst v) w->Q (.panic c) a w):
 ∀(k:Nat) (l:Array Bool) (a:Act) (w:World),
  (∀j oj,ops[j]?=some oj->j≠i->l.getD j true=false->(∀e∈oj.after,Region.binds md e=true->e.on≠i)->oi.apart ops oj=true)->
  i∈Region.ready md ops l->i≠st->o7 P ops (λ_=>True) oi v a->Till C st l w->
  aP F n P md ops Q C st k (l.setIfInBounds i true) (a.put oi.dst v) w->aP F n P md ops Q C st (k+1) l a w:=by
 intro k
 induction k with
 | zero=>
   intro l a w _ hr oP hy hC H;refine⟨λh=>(by rw[h] at hr;cases hr),λj hj=>?_⟩;by_cases mg:j=i
   ·rw[mg];exact hy.wpOpIn Cf hi trivial ⟨λh=>hC (by rw[getD_set_ne true oP] at h;exact h),H⟩
   have h0:=ready_mono hj mg;rw[H.1] at h0;cases h0
 | succ k ih=>
   intro l a w yz hr oP hy hC H;refine⟨λh=>(by rw[h] at hr;cases hr),λj hj=>?_⟩;by_cases mg:j=i
   ·rw[mg];exact hy.wpOpIn Cf hi trivial ⟨λh=>hC (by rw[getD_set_ne true oP] at h;exact h),H⟩
   obtain⟨JL,oj,AB,dW⟩:=mem_ready.1 hj;have Fg:=(mem_ready.1 hr).1
   have La:∀e∈oj.after,Region.binds md e=true->e.on≠i:=λe he hb heq=>by
    have h1:=dW e he hb;rw[heq] at h1
    rcases Nat.lt_or_ge i l.size with aN | jT
    ·simp[aN] at Fg h1;rw[Fg] at h1;cases h1
    simp[Array.getElem?_eq_none jT] at h1
   have h2:=UN Cf AB (yz j oj AB mg JL La) (λcs b=>CW i oi cs b hi) (λcs b=>CW j oj cs b AB) hQ hy (H.2 j (ready_mono hj mg));refine wpOpIn_mono (λa' w' h3=>?_) h2;obtain⟨QO,hT,hA⟩:=h3;rw[Array.setIfInBounds_comm _ _ (Ne.symm mg)] at hT hA;have hT':Till C st (l.setIfInBounds j true) w':=λh=>hT (by rw[getD_set_ne true oP];exact h);refine⟨hT',ih (l.setIfInBounds j true) a' w' (λz ok hk o9 JM BL=>?_) (ready_mono hr (Ne.symm mg)) oP QO hT' hA⟩;refine yz z ok hk o9 ?_ BL;by_cases FB:j=z
   ·rw[<-FB];exact JL
   rw[getD_set_ne true FB] at JM;exact JM
theorem aP.zJ{i:Nat}{oi:Oper}{v:Value}{k:Nat}{l:Array Bool}{a:Act}{w:World}(Cf:F.round=none)(hi:ops[i]?=some oi)
 (hs:Region.noSelect ops=true) (hf:Region.free md ops l i=true) (hr:(Region.ready md ops l).contains i=true) (oP:i≠st)
 (hQ:∀c a w,Q (.panic c) (a.put oi.dst v) w->Q (.panic c) a w) (hy:o7 P ops (λ_=>True) oi v a) (hC:C w)
 (h:aP F n P md ops Q C st k (l.setIfInBounds i true) (a.put oi.dst v) w):aP F n P md ops Q C st (k+1) l a w:=
 aP.Vo Cf hi (Region.noSelect_spec hs) hQ k l a w (Region.free_spec hi hf) (by simpa using hr) oP hy (λ_=>hC) h
theorem aP.two{i j:Nat}{o o':Oper}{k:Nat}{l:Array Bool}{a:Act}{w:World}(hr:Region.ready md ops l=[i,j])(ho:ops[i]?=some o)(yR:ops[j]?=some o')
 (h:∀K:Act->World->Prop,Shut (∀a w,(Till C st (l.setIfInBounds i true) w)->aP F n P md ops Q C st k (l.setIfInBounds i true) a w->K a w)->if Region.wanted o (yielded ops a.tmps)=true then Oper.wpIn F n P o a w K Q else (∀f,o.about P w a.eval=some f->F.fn f)/\K (a.put o.dst undef) w)
 (h':∀K:Act->World->Prop,Shut (∀a w,(Till C st (l.setIfInBounds j true) w)->aP F n P md ops Q C st k (l.setIfInBounds j true) a w->K a w)->if Region.wanted o' (yielded ops a.tmps)=true then Oper.wpIn F n P o' a w K Q else (∀f,o'.about P w a.eval=some f->F.fn f)/\K (a.put o'.dst undef) w):aP F n P md ops Q C st (k+1) l a w:=by
 refine⟨λh0=>(by rw[h0] at hr;cases hr),λz hk=>?_⟩;rw[hr] at hk;simp only[TT,List.not_mem_nil,or_false] at hk
 rcases hk with rfl | rfl
 ·exact wpOpIn_step ho λK hK=>h K λa w h1 h2=>hK a w ⟨h1,h2⟩
 exact wpOpIn_step yR λK hK=>h' K λa w h1 h2=>hK a w ⟨h1,h2⟩
end
