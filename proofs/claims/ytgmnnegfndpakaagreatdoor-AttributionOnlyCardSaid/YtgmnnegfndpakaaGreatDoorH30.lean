import Derived.Test.YtgmnnegfndpakaaGreatDoorH29
set_option maxHeartbeats 20000000
set_option maxRecDepth 100000
namespace Go.Proofs.YtgmnnegfndpakaaGreatDoor
open Go.RowKit
variable{m:eQ}{s t u y:Nat}{st:List Nat×List Nat}{x:Stp}{w:List Nm}
def Edge(m:eQ)(s t:Nat):Prop:=∃x∈gK m s,Hr m.elems x.leaf=true/\x.dst=t
inductive Reach (m:eQ):Nat->Nat->Prop
 | refl (s:Nat):Reach m s s
 | tail {s t u:Nat}:Reach m s t->Edge m t u->Reach m s u
theorem Reach.trans(h:Reach m s t)(k:Reach m t u):Reach m s u:=by
 induction k with
 | refl=>exact h
 | tail _ e ih=>exact ih.tail e
theorem Reach.head(e:Edge m s t)(h:Reach m t u):Reach m s u:=((Reach.refl s).tail e).trans h
theorem agw{st:CQ}(h:y∈st.list):y∈(oq m s st x).list:=by
 obtain⟨r,hr⟩:=UT (m:=m) (s:=s) (st:=st) (x:=x);rw[hr];exact z12.2 (.inl h)
theorem agx{st:CQ}(h:y∈fZ t st.back):y∈fZ t (oq m s st x).back:=by
 unfold oq
 split
 ·dsimp only;rw[KD]
  split
  ·rename_i e;rw[<-e];exact z12.2 (.inl h)
  exact h
 exact h
theorem adv(l:List Stp){st:CQ}(h:y∈st.list):y∈(l.foldl (oq m s) st).list:=by
 obtain⟨r,hr⟩:=Lt (m:=m) (s:=s) l st;rw[hr];exact z12.2 (.inl h)
theorem acv:∀(l:List Stp) {st:CQ},y∈fZ t st.back->y∈fZ t (l.foldl (oq m s) st).back
 | [],_,h=>h
 | _::l,_,h=>acv l (agx h)
theorem agn:∀(l:List Stp) (st:CQ) (x:Stp),x∈l->Hr m.elems x.leaf=true->x.dst∈(l.foldl (oq m s) st).list/\s∈fZ x.dst (l.foldl (oq m s) st).back
 | [],_,_,h,_=>by simp at h
 | y::l,st,x,h,hs=>by
   rw[JN]
   rcases TT.1 h with rfl | h
   ·refine⟨adv l ?_,acv l ?_⟩
    ·unfold oq;rw[j6 hs];dsimp only
     split
     ·assumption
     exact z12.2 (.inr zP)
    unfold oq;rw[j6 hs];dsimp only;rw[KD,j6 rfl];exact z12.2 (.inr zP)
   exact agn l _ x h hs
structure adg (m:eQ) (st:CQ):Prop where
 zero:0∈st.list
 list:∀s∈st.list,Reach m 0 s
 back:∀t s,s∈fZ t st.back->Edge m s t
theorem adg.step{st:CQ}(h:adg m st)(hs:Reach m 0 s)(hx:x∈gK m s):adg m (oq m s st x):=by
 refine⟨agw h.zero,λy hy=>?_,λt y hy=>?_⟩
 ·unfold oq at hy
  split at hy
  ·rename_i ve;dsimp only at hy
   split at hy
   ·exact h.list y hy
   rcases z12.1 hy with hy | hy
   ·exact h.list y hy
   rw[og] at hy;subst hy;exact hs.tail ⟨x,hx,ve,rfl⟩
  exact h.list y hy
 unfold oq at hy
 split at hy
 ·rename_i ve;dsimp only at hy;rw[KD] at hy
  split at hy
  ·rename_i e
   rcases z12.1 hy with hy | hy
   ·rw[e];exact h.back _ y hy
   rw[og] at hy;subst hy;exact⟨x,hx,ve,e.symm⟩
  exact h.back t y hy
 exact h.back t y hy
theorem adg.fold(hs:Reach m 0 s):∀(l:List Stp) {st:CQ},adg m st->(∀x∈l,x∈gK m s)->adg m (l.foldl (oq m s) st)
 | [],_,h,_=>h
 | x::l,_,h,hl=>adg.fold hs l (h.step hs (hl x zP)) λy hy=>hl y (by simp[hy])
structure LvC (m:eQ) (k:Nat) (st:CQ):Prop where
 snd:adg m st
 done:∀(i s t:Nat),i<k->st.list[i]?=s->Edge m s t->t∈st.list/\s∈fZ t st.back
theorem LvC.start(m:eQ):LvC m 0 ⟨[0],[]⟩:=⟨⟨zP,λs hs=>by rw[og] at hs;subst hs;exact .refl _,λt s hs=>by simp[fZ] at hs⟩,λi s t hi=>by omega⟩
theorem LvC.next{k:Nat}{st:CQ}(h:LvC m k st)(hs:st.list[k]?=s):LvC m (k+1) ((gK m s).foldl (oq m s) st):=by
 refine⟨adg.fold (h.snd.list s (SK hs)) _ h.snd λx hx=>hx,λi y t hi hy he=>?_⟩;obtain⟨r,hr⟩:=Lt (m:=m) (s:=s) (gK m s) st;have hk:=(z4.1 hs).1;rw[hr,z20 zO] at hy;by_cases e:i=k
 ·subst e;obtain rfl:s=y:=zI (hs.symm.trans hy);obtain⟨x,hx,h1,rfl⟩:=he;exact agn _ _ x hx h1
 obtain⟨h1,h2⟩:=h.done i y t zO hy he;exact⟨adv _ h1,acv _ h2⟩
theorem aqm(fQ:mQ m)(uw:∀s,(gK m s).length<=300000):∃k,OA m k (gB m)/\LvC m k (gB m)/\k=(gB m).list.length:=by
 have key:∀(d k:Nat) (st:CQ),uf m - k=d->OA m k st->LvC m k st->∃k,OA m k (gB m)/\LvC m k (gB m)/\k=(gB m).list.length:=by
  intro d
  induction d with
  | zero=>
    intro k st hd h1 h2;have h3:=h1.ok.size;have h4:=h1.le;have hk:k=st.list.length:=zO;have he:=h1.stop hk;exact⟨k,he ▸ h1,he ▸ h2,he ▸ hk⟩
  | succ d ih=>
    intro k st hd h1 h2;by_cases hk:k=st.list.length
    ·have he:=h1.stop hk;exact⟨k,he ▸ h1,he ▸ h2,he ▸ hk⟩
    have h4:=h1.le;have hs:st.list[k]?=st.list[k]'zO:=z6 zO;exact ih (k+1) _ zO (h1.next fQ uw hs) (h2.next hs)
 exact key _ 0 _ rfl (OA.start m) (LvC.start m)
theorem ajw(fQ:mQ m)(uw:∀s,(gK m s).length<=300000):(∀s,s∈(gB m).list↔Reach m 0 s)/\∀s t,s∈fZ t (gB m).back↔Reach m 0 s/\Edge m s t:=by
 obtain⟨k,h1,h2,hk⟩:=aqm fQ uw
 have eH:∀s t,s∈(gB m).list->Edge m s t->t∈(gB m).list/\s∈fZ t (gB m).back:=λs t hs he=>by
  obtain⟨i,hi,rfl⟩:=List.mem_iff_getElem.1 hs;exact h2.done i _ t zO (z6 hi) he
 have dW:∀s,Reach m 0 s->s∈(gB m).list:=by
  have key:∀z s,Reach m z s->z∈(gB m).list->s∈(gB m).list:=by
   intro z s h
   induction h with
   | refl=>exact λh=>h
   | tail _ e ih=>exact λhz=>(eH _ _ (ih hz) e).1
  exact λs h=>key 0 s h h2.snd.zero
 refine⟨λs=>⟨h2.snd.list s,dW s⟩,λs t=>⟨λh=>⟨h2.snd.list s (h1.ok.back t s h),h2.snd.back t s h⟩,λh=>(eH s t (dW s h.1) h.2).2⟩⟩
structure DrC (m:eQ) (st:List Nat×List Nat):Prop where
 snd:∀s∈st.1,Reach m 0 s/\∃f,Reach m s f/\wH m f=true
 fin:∀s,Reach m 0 s->wH m s=true->s∈st.1
 done:∀t∈st.1,t∈st.2\/∀s∈fZ t (gB m).back,s∈st.1
theorem aqp(h:y∈st.1):y∈(lU st t).1:=by
 unfold lU
 split
 ·exact h
 exact z12.2 (.inl h)
theorem aqz(h:y∈st.2):y∈(lU st t).2:=by
 unfold lU
 split
 ·exact h
 exact z12.2 (.inl h)
theorem acO:∀(l:List Nat) {st:List Nat×List Nat},y∈st.1->y∈(l.foldl lU st).1
 | [],_,h=>h
 | _::l,_,h=>acO l (aqp h)
theorem adz:∀(l:List Nat) {st:List Nat×List Nat},y∈st.2->y∈(l.foldl lU st).2
 | [],_,h=>h
 | _::l,_,h=>adz l (aqz h)
theorem akX:∀(l:List Nat) {st:List Nat×List Nat} {y:Nat},y∈l->y∈(l.foldl lU st).1
 | [],_,_,h=>by simp at h
 | t::l,st,y,h=>by
   rw[JN]
   rcases TT.1 h with rfl | h
   ·refine acO l ?_;unfold lU
    split
    ·assumption
    exact z12.2 (.inr zP)
   exact akX l h
theorem aez:∀(l:List Nat) {st:List Nat×List Nat} {y:Nat},y∈(l.foldl lU st).1->y∈st.1\/(y∈l/\y∈(l.foldl lU st).2)
 | [],_,_,h=>.inl h
 | t::l,st,y,h=>by
   rw[JN] at h ⊢
   rcases aez l h with h1 | ⟨h1,h2⟩
   ·unfold lU at h1
    split at h1
    ·exact .inl h1
    rename_i hn
    rcases z12.1 h1 with h1 | h1
    ·exact .inl h1
    rw[og] at h1;subst h1;refine .inr ⟨zP,adz l ?_⟩;unfold lU;rw[j5 hn];exact z12.2 (.inr zP)
   exact .inr ⟨Zb _ h1,h2⟩
theorem ajx:∀{l:List Nat},l.getLast?=s->y∈l->y=s\/y∈l.dropLast:=by
 intro l h hy;have dD:l≠[]:=λe=>(by rw[e] at h;cases h);have h1:=List.dropLast_concat_getLast dD;have h2:l.getLast dD=s:=(by rw[List.getLast?_eq_some_getLast dD] at h;exact zI h);rw[<-h1,z12,h2,og] at hy;exact hy.symm
theorem DrC.next(fQ:mQ m)(uw:∀s,(gK m s).length<=300000)(h:DrC m st)(hs:st.2.getLast?=some s)(nC:s∈st.1):DrC m ((fZ s (gB m).back).foldl lU (st.1,st.2.dropLast)):=by
 obtain⟨-,hb⟩:=ajw fQ uw;refine⟨λy hy=>?_,λy h1 h2=>acO _ (h.fin y h1 h2),λt ht=>?_⟩
 ·rcases aez _ hy with hy | ⟨hy,-⟩
  ·exact h.snd y hy
  obtain⟨h1,h2⟩:=(hb y s).1 hy;obtain⟨-,f,h3,h4⟩:=h.snd s nC;exact⟨h1,f,h3.head h2,h4⟩
 rcases aez _ ht with h1 | ⟨-,h1⟩
 ·rcases h.done t h1 with h2 | h2
  ·rcases ajx hs h2 with rfl | h3
   ·exact .inr λy hy=>akX _ hy
   exact .inl (adz _ h3)
  exact .inr λy hy=>acO _ (h2 y hy)
 exact .inl h1
theorem afW(fQ:mQ m)(uw:∀s,(gK m s).length<=300000)(s:Nat):s∈aao m↔Reach m 0 s/\∃f,Reach m s f/\wH m f=true:=by
 obtain⟨k0,vX,-,-⟩:=aqm fQ uw;obtain⟨hl,hb⟩:=ajw fQ uw
 have fin:∃st,st.1=aao m/\st.2=[]/\DrC m st:=by
  have key:∀(d j:Nat) (st:List Nat×List Nat),uf m - j=d->OC m j st->DrC m st->∃st,st.1=aao m/\st.2=[]/\DrC m st:=by
   intro d
   induction d with
   | zero=>
     intro j st hd h1 h2;have h3:=h1.ok.size vX.ok;have h4:=h1.len;have he:st.2=[]:=g9 zO;exact⟨st,h1.stop vX.ok he,he,h2⟩
   | succ d ih=>
     intro j st hd h1 h2;by_cases he:st.2=[]
     ·exact⟨st,h1.stop vX.ok he,he,h2⟩
     have hg:st.2.getLast?=st.2.getLast he:=List.getLast?_eq_some_getLast he;exact ih (j+1) _ zO (h1.next vX.ok hg) (h2.next fQ uw hg (h1.ok.stk _ (List.getLast_mem he)))
  refine key _ 0 _ rfl (OC.start m vX.ok) ⟨λy hy=>?_,λy h1 h2=>List.mem_filter.2 ⟨(hl y).2 h1,h2⟩,λt ht=>.inl ht⟩;obtain⟨h1,h2⟩:=List.mem_filter.1 hy;exact⟨(hl y).1 h1,y,.refl y,h2⟩
 obtain⟨st,h1,h2,h3⟩:=fin;rw[<-h1];refine⟨h3.snd s,?_⟩;rintro⟨h4,f,h5,h6⟩
 have key:∀a f,Reach m a f->Reach m 0 a->f∈st.1->a∈st.1:=by
  intro a f h
  induction h with
  | refl=>exact λ_ h=>h
  | tail h7 e ih=>
    intro h8 h9;refine ih h8 ?_
    rcases h3.done _ h9 with AP | AP
    ·rw[h2] at AP;simp at AP
    exact AP _ ((hb _ _).2 ⟨h8.trans h7,e⟩)
 exact key s f h5 h4 (h3.fin f (h4.trans h5) h6)
inductive Way (m:eQ):Nat->List Nm->Nat->Prop
 | nil (s:Nat):Way m s [] s
 | cons {s t:Nat} {n:Nm} {w:List Nm} {x:Stp}:x∈gK m s->Gf m.elems x.leaf n=true->Way m x.dst w t->Way m s (n::w) t
theorem acx{set:List Nat}{n:Nm}:t∈lZ m set n↔∃s∈set,∃x∈gK m s,Gf m.elems x.leaf n=true/\x.dst=t:=by
 unfold lZ IJ;rw[wI,List.mem_flatMap];constructor
 ·rintro⟨s,hs,h⟩;obtain⟨x,hx,rfl⟩:=List.mem_map.1 h;obtain⟨h1,h2⟩:=List.mem_filter.1 hx;exact⟨s,hs,x,h1,h2,rfl⟩
 rintro⟨s,hs,x,h1,h2,rfl⟩;exact⟨s,hs,List.mem_map.2 ⟨x,List.mem_filter.2 ⟨h1,h2⟩,rfl⟩⟩
theorem age:∀(w:List Nm) (set:List Nat),t∈w.foldl (lZ m) set↔∃s∈set,Way m s w t
 | [],set=>by
   constructor
   ·intro h;exact⟨t,h,.nil t⟩
   rintro⟨s,hs,h⟩;cases h;exact hs
 | n::w,set=>by
   rw[JN,age w];constructor
   ·rintro⟨s',h1,h2⟩;obtain⟨s,hs,x,hx,ha,rfl⟩:=acx.1 h1;exact⟨s,hs,.cons hx ha h2⟩
   rintro⟨s,hs,h⟩
   cases h with
   | cons hx ha h2=>exact⟨_,acx.2 ⟨s,hs,_,hx,ha,rfl⟩,h2⟩
theorem aEG:qA m (w.foldl (lZ m) [0])=true↔∃t,Way m 0 w t/\wH m t=true:=by
 unfold qA;rw[Qc];constructor
 ·rintro⟨t,h1,h2⟩;obtain⟨s,hs,h3⟩:=(age w [0]).1 h1;rw[og] at hs;subst hs;exact⟨t,h3,h2⟩
 rintro⟨t,h1,h2⟩;exact⟨t,(age w [0]).2 ⟨0,zP,h1⟩,h2⟩
theorem Way.trans{v:List Nm}(h:Way m s w t)(k:Way m t v u):Way m s (w++v) u:=by
 induction h with
 | nil=>exact k
 | cons hx ha _ ih=>exact .cons hx ha (ih k)
def afX(m:eQ):Prop:=∀(s:Nat) (x:Stp) (n:Nm),x∈gK m s->Gf m.elems x.leaf n=true->Hr m.elems x.leaf=true
theorem Way.reach(hs:afX m)(h:Way m s w t):Reach m s t:=by
 induction h with
 | nil=>exact .refl _
 | cons hx ha _ ih=>exact ih.head ⟨_,hx,hs _ _ _ hx ha,rfl⟩
theorem aqB(fQ:mQ m)(uw:∀s,(gK m s).length<=300000)(hs:afX m):∀(w:List Nm) (i:Nat) (set:List Nat),(∀s∈set,Reach m 0 s)->(QK m (aao m) w i set).1=qA m (w.foldl (lZ m) set)
 | [],i,set,_=>rfl
 | n::w,i,set,hr=>by
   have Aq:∀s∈lZ m set n,Reach m 0 s:=λs h=>by
    obtain⟨s0,h0,x,hx,ha,rfl⟩:=acx.1 h;exact(hr s0 h0).tail ⟨x,hx,hs _ _ _ hx ha,rfl⟩
   rw[QK,JN];by_cases hm:EX (lZ m set n) (aao m)=true
   ·rw[j6 hm];exact aqB fQ uw hs w (i+1) _ Aq
   rw[j5 hm]
   symm
   rw[Bool.eq_false_iff];intro he;unfold qA at he;obtain⟨t,h1,h2⟩:=Qc.1 he;obtain⟨s,h3,h4⟩:=(age w _).1 h1;refine hm ?_;unfold EX;exact Qc.2 ⟨s,h3,decide_eq_true ((afW fQ uw s).2 ⟨Aq s h3,t,h4.reach hs,h2⟩)⟩
theorem aqD(fQ:mQ m)(uw:∀s,(gK m s).length<=300000)(hs:afX m)(w:List Nm):(QK m (aao m) w 0 [0]).1=true↔∃t,Way m 0 w t/\wH m t=true:=by
 rw[aqB fQ uw hs w 0 [0] (λs h=>by rw[og] at h;subst h;exact .refl _)];exact aEG
theorem acy(dW:m.all=[]):x∈gK m s↔∃i q,i∈ku m s/\m.places[i]?=some q/\x=⟨i+1,q.num,q.leaf⟩:=by
 unfold gK;rw[dW];simp only[List.isEmpty_nil,if_true];rw[List.mem_flatMap];constructor
 ·rintro⟨i,hi,h⟩;unfold CP at h
  split at h
  ·rename_i q hq;exact⟨i,q,hi,hq,og.1 h⟩
  simp at h
 rintro⟨i,q,hi,hq,rfl⟩;refine⟨i,hi,?_⟩;unfold CP;rw[hq];simp
section
variable {F:Fence} {n:Nat} {P:Program} {ops:Array Oper} {Q:Exit->Act->World->Prop} {md:Region.Mode} {C:World->Prop} {st:Nat}
theorem aP.Vo{i:Nat}{oi:Oper}{v:Value}(Cf:F.round=none)(hi:ops[i]?=oi)
 (CW:∀(j:Nat) (o:Oper) cs b,ops[j]?=o->o.op≠.select cs b) (hQ:∀c a w,Q (.panic c) (a.put oi.dst v) w->Q (.panic c) a w):
 ∀(k:Nat) (l:Array Bool) (a:Act) (w:World),
  (∀j oj,ops[j]?=some oj->j≠i->l.getD j true=false->(∀e∈oj.after,Region.binds md e=true->e.on≠i)->oi.apart ops oj=true)->
  i∈Region.ready md ops l->i≠st->o7 P ops (λ_=>True) oi v a->Till C st l w->
  aP F n P md ops Q C st k (l.setIfInBounds i true) (a.put oi.dst v) w->aP F n P md ops Q C st (k+1) l a w:=by
 intro k
 induction k with
 | zero=>
   intro l a w _ hr oP hy hC H;refine⟨λh=>(by rw[h] at hr;cases hr),λj hj=>?_⟩;by_cases mg:j=i
   ·rw[mg];exact hy.wpOpIn Cf hi trivial ⟨λh=>hC (by rw[getD_set_ne true oP] at h;exact h),H⟩
   have h0:=ready_mono hj mg;rw[H.1] at h0;cases h0
 | succ k ih=>
   intro l a w yz hr oP hy hC H;refine⟨λh=>(by rw[h] at hr;cases hr),λj hj=>?_⟩;by_cases mg:j=i
   ·rw[mg];exact hy.wpOpIn Cf hi trivial ⟨λh=>hC (by rw[getD_set_ne true oP] at h;exact h),H⟩
   obtain⟨JL,oj,AB,dW⟩:=mem_ready.1 hj;have Fg:=(mem_ready.1 hr).1
   have La:∀e∈oj.after,Region.binds md e=true->e.on≠i:=λe he hb heq=>by
    have h1:=dW e he hb;rw[heq] at h1
    rcases i8 i l.size with aN | jT
    ·simp[aN] at Fg h1;rw[Fg] at h1;cases h1
    simp[Array.getElem?_eq_none jT] at h1
   have h2:=UN Cf AB (yz j oj AB mg JL La) (λcs b=>CW i oi cs b hi) (λcs b=>CW j oj cs b AB) hQ hy (H.2 j (ready_mono hj mg));refine wpOpIn_mono (λa' w' h3=>?_) h2;obtain⟨QO,hT,hA⟩:=h3;rw[Array.setIfInBounds_comm _ _ (Ne.symm mg)] at hT hA;have hT':Till C st (l.setIfInBounds j true) w':=λh=>hT (by rw[getD_set_ne true oP];exact h);refine⟨hT',ih (l.setIfInBounds j true) a' w' (λz ok hk o9 JM BL=>?_) (ready_mono hr (Ne.symm mg)) oP QO hT' hA⟩;refine yz z ok hk o9 ?_ BL;by_cases FB:j=z
   ·rw[<-FB];exact JL
   rw[getD_set_ne true FB] at JM;exact JM
theorem aP.zJ{i:Nat}{oi:Oper}{v:Value}{k:Nat}{l:Array Bool}{a:Act}{w:World}(Cf:F.round=none)(hi:ops[i]?=oi)
 (hs:Region.noSelect ops=true) (hf:Region.free md ops l i=true) (hr:(Region.ready md ops l).contains i=true) (oP:i≠st)
 (hQ:∀c a w,Q (.panic c) (a.put oi.dst v) w->Q (.panic c) a w) (hy:o7 P ops (λ_=>True) oi v a) (hC:C w)
 (h:aP F n P md ops Q C st k (l.setIfInBounds i true) (a.put oi.dst v) w):aP F n P md ops Q C st (k+1) l a w:=
 aP.Vo Cf hi (Region.noSelect_spec hs) hQ k l a w (Region.free_spec hi hf) (by simpa using hr) oP hy (λ_=>hC) h
theorem aP.two{i j:Nat}{o o':Oper}{k:Nat}{l:Array Bool}{a:Act}{w:World}(hr:Region.ready md ops l=[i,j])(ho:ops[i]?=o)(yR:ops[j]?=o')
 (h:∀K:Act->World->Prop,Shut (∀a w,(Till C st (l.setIfInBounds i true) w)->aP F n P md ops Q C st k (l.setIfInBounds i true) a w->K a w)->if Region.wanted o (yielded ops a.tmps)=true then Oper.wpIn F n P o a w K Q else (∀f,o.about P w a.eval=some f->F.fn f)/\K (a.put o.dst undef) w)
 (h':∀K:Act->World->Prop,Shut (∀a w,(Till C st (l.setIfInBounds j true) w)->aP F n P md ops Q C st k (l.setIfInBounds j true) a w->K a w)->if Region.wanted o' (yielded ops a.tmps)=true then Oper.wpIn F n P o' a w K Q else (∀f,o'.about P w a.eval=some f->F.fn f)/\K (a.put o'.dst undef) w):aP F n P md ops Q C st (k+1) l a w:=by
 refine⟨λh0=>(by rw[h0] at hr;cases hr),λz hk=>?_⟩;rw[hr] at hk;simp only[TT,List.not_mem_nil,or_false] at hk
 rcases hk with rfl | rfl
 ·exact wpOpIn_step ho λK hK=>h K λa w h1 h2=>hK a w ⟨h1,h2⟩
 exact wpOpIn_step yR λK hK=>h' K λa w h1 h2=>hK a w ⟨h1,h2⟩
end
