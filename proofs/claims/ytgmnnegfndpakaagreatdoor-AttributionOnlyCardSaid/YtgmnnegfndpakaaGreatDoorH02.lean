import Derived.Test.YtgmnnegfndpakaaGreatDoorH01
import Derived.OrdersHeld
import Derived.Deep.RegionHeld
import Derived.OrdersIn
set_option maxHeartbeats 20000000
set_option maxRecDepth 100000
namespace Go.Proofs.YtgmnnegfndpakaaGreatDoor
open Go.RowKit
variable{α:Type _}{a:Act}{P:Program}{ops:Array Oper}{Q:Exit->Act->World->Prop}{w:World}{C:World->Prop}{id:Nat}{x:α}{xs:List α}
theorem dG(l:List α)(i:Nat)(a:α):Array.setIfInBounds (List.toArray l) i a=List.toArray (List.set l i a):=List.setIfInBounds_toArray l i a
theorem dH{a:α}:List.set (x::xs) 0 a=a::xs:=List.set_cons_zero
theorem dI{i:Nat}{a:α}:List.set (x::xs) (i+1) a=x::List.set xs i a:=List.set_cons_succ
section
variable {P:Program} {ops:Array Oper} {Q:Exit->Act->World->Prop} {md:Region.Mode} {C:World->Prop} {st:Nat}
theorem aB{ops:Array Oper}{i:Nat}{o:Oper}{rest:List Oper}(h:ops.toList.drop i=o::rest):ops[i]?=o:=by
 have h1:ops.toList[i]?=o:=(by rw[<-List.head?_drop,h];rfl);simpa using h1
def Till(C:World->Prop)(st:Nat)(l:Array Bool)(w:World):Prop:=l.getD st true=false->C w
def ah(P:Program)(md:Region.Mode)(ops:Array Oper)(Q:Exit->Act->World->Prop)(C:World->Prop)(st:Nat):Nat->Array Bool->Act->World->Prop
 | 0,l,a,w=>Region.ready md ops l=[]/\Q .normal a w
 | n+1,l,a,w=>(Region.ready md ops l=[]->Q .normal a w)/\
   ∀i∈Region.ready md ops l,wpOp P ops Q i (λa' w'=>Till C st (l.setIfInBounds i true) w'/\ah P md ops Q C st n (l.setIfInBounds i true) a' w') a w
theorem ah.any:∀(n:Nat) (l:Array Bool) (a:Act) (w:World),ah P md ops Q C st n l a w->wpAny P md ops Q n l a w
 | 0,_,_,_,h=>h
 | n+1,_,_,_,h=>⟨h.1,λi hi=>wpOp_mono (λa' w' h'=>ah.any n _ a' w' h'.2) (h.2 i hi)⟩
theorem ah.first{i:Nat}{oi os:Oper}{v:Value}(hi:ops[i]?=oi)(hos:ops[st]?=os)(haf:∃e∈os.after,Region.binds md e=true/\e.on=i)
 (CW:∀(j:Nat) (o:Oper) cs b,ops[j]?=o->o.op≠.select cs b) (hQ:∀c a w,Q (.panic c) (a.put oi.dst v) w->Q (.panic c) a w):
 ∀(n:Nat) (l:Array Bool) (a:Act) (w:World),
  (∀j oj,ops[j]?=some oj->j≠i->l.getD j true=false->(∀e∈oj.after,Region.binds md e=true->e.on≠i)->oi.apart ops oj=true)->
  i∈Region.ready md ops l->l.getD st true=false->i≠st->YieldsIf P ops C oi v a->C w->
  ah P md ops Q C st n (l.setIfInBounds i true) (a.put oi.dst v) w->ah P md ops Q C st (n+1) l a w:=by
 intro n
 induction n with
 | zero=>
   intro l a w _ hr hs oP hy hC H;refine⟨λh=>(by rw[h] at hr;cases hr),λj hj=>?_⟩;by_cases mg:j=i
   ·rw[mg];exact hy.wpOp hi hC ⟨λ_=>hC,H⟩
   have h0:=ready_mono hj mg;rw[H.1] at h0;cases h0
 | succ n ih=>
   intro l a w yz hr hs oP hy hC H;refine⟨λh=>(by rw[h] at hr;cases hr),λj hj=>?_⟩;by_cases mg:j=i
   ·rw[mg];exact hy.wpOp hi hC ⟨λ_=>hC,H⟩
   obtain⟨JL,oj,AB,dW⟩:=mem_ready.1 hj;have Fg:=(mem_ready.1 hr).1
   have La:∀e∈oj.after,Region.binds md e=true->e.on≠i:=λe he hb heq=>by
    have h1:=dW e he hb;rw[heq] at h1
    rcases i8 i l.size with aN | jT
    ·simp[aN] at Fg h1;rw[Fg] at h1;cases h1
    simp[Array.getElem?_eq_none jT] at h1
   have ZE:j≠st:=λe=>by
    rw[e,hos] at AB;obtain⟨e1,h1,h2,h3⟩:=haf;exact La e1 (zI AB ▸ h1) h2 h3
   have h2:=wpOp_putIf AB (yz j oj AB mg JL La) (λcs b=>CW i oi cs b hi) (λcs b=>CW j oj cs b AB) hQ hy (H.2 j (ready_mono hj mg));refine wpOp_mono (λa' w' h3=>?_) h2;obtain⟨QO,hT,hA⟩:=h3;have uS:(l.setIfInBounds j true).getD st true=false:=(by rw[getD_set_ne true ZE];exact hs);have hC':C w':=hT (by rw[getD_set_ne true ZE,getD_set_ne true oP];exact hs);refine⟨λ_=>hC',ih (l.setIfInBounds j true) a' w' (λk ok hk o9 JM BL=>?_) (ready_mono hr (Ne.symm mg)) uS oP QO hC' ?_⟩
   ·refine yz k ok hk o9 ?_ BL;by_cases FB:j=k
    ·rw[<-FB];exact JL
    rw[getD_set_ne true FB] at JM;exact JM
   rw[Array.setIfInBounds_comm _ _ mg];exact hA
theorem ah.take{i:Nat}{oi os:Oper}{v:Value}{n:Nat}{l:Array Bool}{a:Act}{w:World}(hi:ops[i]?=oi)(hos:ops[st]?=os)(haf:(os.after.any λe=>Region.binds md e&&e.on==i)=true)
 (hs:Region.noSelect ops=true) (hf:Region.free md ops l i=true) (hr:(Region.ready md ops l).contains i=true) (bZ:l.getD st true=false) (oP:i≠st)
 (hQ:∀c a w,Q (.panic c) (a.put oi.dst v) w->Q (.panic c) a w) (hy:YieldsIf P ops C oi v a) (hC:C w)
 (h:ah P md ops Q C st n (l.setIfInBounds i true) (a.put oi.dst v) w):ah P md ops Q C st (n+1) l a w:=by
 refine ah.first hi hos ?_ (Region.noSelect_spec hs) hQ n l a w (Region.free_spec hi hf) (by simpa using hr) bZ oP hy hC h;rw[Array.any_eq_true] at haf;obtain⟨k,hk,h1⟩:=haf;rw[z7] at h1;exact⟨os.after[k],Array.getElem_mem hk,h1.1,by simpa using h1.2⟩
theorem ah.Vo{i:Nat}{oi:Oper}{v:Value}(hi:ops[i]?=oi)
 (CW:∀(j:Nat) (o:Oper) cs b,ops[j]?=o->o.op≠.select cs b) (hQ:∀c a w,Q (.panic c) (a.put oi.dst v) w->Q (.panic c) a w):
 ∀(n:Nat) (l:Array Bool) (a:Act) (w:World),
  (∀j oj,ops[j]?=some oj->j≠i->l.getD j true=false->(∀e∈oj.after,Region.binds md e=true->e.on≠i)->oi.apart ops oj=true)->
  i∈Region.ready md ops l->i≠st->YieldsIf P ops (λ_=>True) oi v a->Till C st l w->
  ah P md ops Q C st n (l.setIfInBounds i true) (a.put oi.dst v) w->ah P md ops Q C st (n+1) l a w:=by
 intro n
 induction n with
 | zero=>
   intro l a w _ hr oP hy hC H;refine⟨λh=>(by rw[h] at hr;cases hr),λj hj=>?_⟩;by_cases mg:j=i
   ·rw[mg];exact hy.wpOp hi trivial ⟨λh=>hC (by rw[getD_set_ne true oP] at h;exact h),H⟩
   have h0:=ready_mono hj mg;rw[H.1] at h0;cases h0
 | succ n ih=>
   intro l a w yz hr oP hy hC H;refine⟨λh=>(by rw[h] at hr;cases hr),λj hj=>?_⟩;by_cases mg:j=i
   ·rw[mg];exact hy.wpOp hi trivial ⟨λh=>hC (by rw[getD_set_ne true oP] at h;exact h),H⟩
   obtain⟨JL,oj,AB,dW⟩:=mem_ready.1 hj;have Fg:=(mem_ready.1 hr).1
   have La:∀e∈oj.after,Region.binds md e=true->e.on≠i:=λe he hb heq=>by
    have h1:=dW e he hb;rw[heq] at h1
    rcases i8 i l.size with aN | jT
    ·simp[aN] at Fg h1;rw[Fg] at h1;cases h1
    simp[Array.getElem?_eq_none jT] at h1
   have h2:=wpOp_putIf AB (yz j oj AB mg JL La) (λcs b=>CW i oi cs b hi) (λcs b=>CW j oj cs b AB) hQ hy (H.2 j (ready_mono hj mg));refine wpOp_mono (λa' w' h3=>?_) h2;obtain⟨QO,hT,hA⟩:=h3;rw[Array.setIfInBounds_comm _ _ (Ne.symm mg)] at hT hA;have hT':Till C st (l.setIfInBounds j true) w':=λh=>hT (by rw[getD_set_ne true oP];exact h);refine⟨hT',ih (l.setIfInBounds j true) a' w' (λk ok hk o9 JM BL=>?_) (ready_mono hr (Ne.symm mg)) oP QO hT' hA⟩;refine yz k ok hk o9 ?_ BL;by_cases FB:j=k
   ·rw[<-FB];exact JL
   rw[getD_set_ne true FB] at JM;exact JM
theorem ah.zJ{i:Nat}{oi:Oper}{v:Value}{n:Nat}{l:Array Bool}{a:Act}{w:World}(hi:ops[i]?=oi)
 (hs:Region.noSelect ops=true) (hf:Region.free md ops l i=true) (hr:(Region.ready md ops l).contains i=true) (oP:i≠st)
 (hQ:∀c a w,Q (.panic c) (a.put oi.dst v) w->Q (.panic c) a w) (hy:YieldsIf P ops (λ_=>True) oi v a) (hC:C w)
 (h:ah P md ops Q C st n (l.setIfInBounds i true) (a.put oi.dst v) w):ah P md ops Q C st (n+1) l a w:=
 ah.Vo hi (Region.noSelect_spec hs) hQ n l a w (Region.free_spec hi hf) (by simpa using hr) oP hy (λ_=>hC) h
theorem ah.done{l:Array Bool}{a:Act}{w:World}(hr:Region.ready md ops l=[])(h:Q .normal a w):∀n,ah P md ops Q C st n l a w
 | 0=>⟨hr,h⟩
 | _+1=>⟨λ_=>h,by rw[hr];simp⟩
theorem ah.one{i:Nat}{o:Oper}{n:Nat}{l:Array Bool}{a:Act}{w:World}(hr:Region.ready md ops l=[i])(ho:ops[i]?=o)
 (h:∀K:Act->World->Prop,Shut (∀a w,(Till C st (l.setIfInBounds i true) w)->ah P md ops Q C st n (l.setIfInBounds i true) a w->K a w)->if Region.wanted o (yielded ops a.tmps)=true then Oper.wp P o a w K Q else K (a.put o.dst undef) w):ah P md ops Q C st (n+1) l a w:=by
 refine⟨λh0=>(by rw[h0] at hr;cases hr),λj hj=>?_⟩;rw[hr,og] at hj;rw[hj];exact wpOp_step ho λK hK=>h K λa w h1 h2=>hK a w ⟨h1,h2⟩
theorem ah.two{i j:Nat}{o o':Oper}{n:Nat}{l:Array Bool}{a:Act}{w:World}(hr:Region.ready md ops l=[i,j])(ho:ops[i]?=o)(yR:ops[j]?=o')
 (h:∀K:Act->World->Prop,Shut (∀a w,(Till C st (l.setIfInBounds i true) w)->ah P md ops Q C st n (l.setIfInBounds i true) a w->K a w)->if Region.wanted o (yielded ops a.tmps)=true then Oper.wp P o a w K Q else K (a.put o.dst undef) w)
 (h':∀K:Act->World->Prop,Shut (∀a w,(Till C st (l.setIfInBounds j true) w)->ah P md ops Q C st n (l.setIfInBounds j true) a w->K a w)->if Region.wanted o' (yielded ops a.tmps)=true then Oper.wp P o' a w K Q else K (a.put o'.dst undef) w):ah P md ops Q C st (n+1) l a w:=by
 refine⟨λh0=>(by rw[h0] at hr;cases hr),λk hk=>?_⟩;rw[hr] at hk;simp only[TT,List.not_mem_nil,or_false] at hk
 rcases hk with rfl | rfl
 ·exact wpOp_step ho λK hK=>h K λa w h1 h2=>hK a w ⟨h1,h2⟩
 exact wpOp_step yR λK hK=>h' K λa w h1 h2=>hK a w ⟨h1,h2⟩
theorem ah.start{id:Nat}{a:Act}{w:World}(C:World->Prop)(st:Nat)(hm:P.follows .mixedOrders=true)(h:ah P .any ops Q C st ops.size (Array.replicate ops.size false) a w.drew):(Code.region id ops true).wp P Q a w:=
 wp_region_any hm (ah.any _ _ _ _ h)
def okT(md:Region.Mode)(ops:Array Oper)(st i:Nat)(l:Array Bool):Bool:=Region.noSelect ops&&Region.free md ops l i&&(Region.ready md ops l).contains i&&(i !=st)
theorem NK{md:Region.Mode}{ops:Array Oper}{st i:Nat}{l:Array Bool}(h:okT md ops st i l=true):Region.noSelect ops=true/\Region.free md ops l i=true/\(Region.ready md ops l).contains i=true/\i≠st:=by
 unfold okT at h;simp only[z7,bne_iff_ne] at h;exact⟨h.1.1.1,h.1.1.2,h.1.2,h.2⟩
theorem ah.tk(i:Nat){oi os:Oper}{v:Value}{n:Nat}{l:Array Bool}{a a':Act}{w:World}(hC:C w)(h:ah P md ops Q C st n (l.setIfInBounds i true) a' w)(hi:ops[i]?=oi:=by exact aB rfl)(hos:ops[st]?=os:=by exact aB rfl)(hb:(okT md ops st i l&&((os.after.any λe=>Region.binds md e&&e.on==i)&&!l.getD st true))=true:=by kernel_rfl)
 (hy:YieldsIf P ops C oi v a:=by (refine Or.inl ⟨zL,?_⟩;intro w hSw;(try dsimp only at hSw);go_simp;all_goals (try with_reducible rfl))) (hQ:∀c a w,Q (.panic c) (a.put oi.dst v) w->Q (.panic c) a w:=by exact λ_ _ _ h=>h) (ha:a.put oi.dst v=a':=by ((try simp only[Act.put,List.setIfInBounds_toArray,List.set_cons_zero,List.set_cons_succ]);exact rfl)):ah P md ops Q C st (n+1) l a w:=by
 subst ha;rw[z7,z7] at hb;obtain⟨h1,h2,h3,h4⟩:=NK hb.1;exact ah.take hi hos hb.2.1 h1 h2 h3 (by simpa using hb.2.2) h4 hQ hy hC h
theorem ah.ta(i:Nat){oi:Oper}{v:Value}{n:Nat}{l:Array Bool}{a a':Act}{w:World}(hC:C w)(h:ah P md ops Q C st n (l.setIfInBounds i true) a' w)(hi:ops[i]?=oi:=by exact aB rfl)(hb:okT md ops st i l=true:=by kernel_rfl)
 (hy:YieldsIf P ops (λ_=>True) oi v a:=by (refine Or.inl ⟨zL,?_⟩;intro w hSw;(try dsimp only at hSw);go_simp;all_goals (try with_reducible rfl))) (hQ:∀c a w,Q (.panic c) (a.put oi.dst v) w->Q (.panic c) a w:=by exact λ_ _ _ h=>h) (ha:a.put oi.dst v=a':=by ((try simp only[Act.put,List.setIfInBounds_toArray,List.set_cons_zero,List.set_cons_succ]);exact rfl)):ah P md ops Q C st (n+1) l a w:=by
 subst ha;obtain⟨h1,h2,h3,h4⟩:=NK hb;exact ah.zJ hi h1 h2 h3 h4 hQ hy hC h
theorem ah.no(i:Nat){oi:Oper}{n:Nat}{l:Array Bool}{a a':Act}{w:World}(hC:C w)(h:ah P md ops Q C st n (l.setIfInBounds i true) a' w)(hi:ops[i]?=oi:=by exact aB rfl)(hb:okT md ops st i l=true:=by kernel_rfl)
 (hy:YieldsIf P ops (λ_=>True) oi undef a:=by exact Or.inr ⟨zL,rfl⟩) (hQ:∀c a w,Q (.panic c) (a.put oi.dst undef) w->Q (.panic c) a w:=by exact λ_ _ _ h=>h) (ha:a.put oi.dst undef=a':=by ((try simp only[Act.put,List.setIfInBounds_toArray,List.set_cons_zero,List.set_cons_succ]);exact rfl)):ah P md ops Q C st (n+1) l a w:=by
 subst ha;obtain⟨h1,h2,h3,h4⟩:=NK hb;exact ah.zJ hi h1 h2 h3 h4 hQ hy hC h
theorem ah.on(i:Nat){o:Oper}{n:Nat}{l:Array Bool}{a:Act}{w:World}(h:∀K:Act->World->Prop,Shut (∀a w,(Till C st (l.setIfInBounds i true) w)->ah P md ops Q C st n (l.setIfInBounds i true) a w->K a w)->if Region.wanted o (yielded ops a.tmps)=true then Oper.wp P o a w K Q else K (a.put o.dst undef) w)(ho:ops[i]?=o:=by exact aB rfl)(hr:Region.ready md ops l=[i]:=by kernel_rfl):ah P md ops Q C st (n+1) l a w:=ah.one hr ho h
theorem ah.tw(i j:Nat){o o':Oper}{n:Nat}{l:Array Bool}{a:Act}{w:World}(h:∀K:Act->World->Prop,Shut (∀a w,(Till C st (l.setIfInBounds i true) w)->ah P md ops Q C st n (l.setIfInBounds i true) a w->K a w)->if Region.wanted o (yielded ops a.tmps)=true then Oper.wp P o a w K Q else K (a.put o.dst undef) w)
 (h':∀K:Act->World->Prop,Shut (∀a w,(Till C st (l.setIfInBounds j true) w)->ah P md ops Q C st n (l.setIfInBounds j true) a w->K a w)->if Region.wanted o' (yielded ops a.tmps)=true then Oper.wp P o' a w K Q else K (a.put o'.dst undef) w) (ho:ops[i]?=o:=by exact aB rfl) (yR:ops[j]?=o':=by exact aB rfl) (hr:Region.ready md ops l=[i,j]:=by kernel_rfl):ah P md ops Q C st (n+1) l a w:=ah.two hr ho yR h h'
theorem ah.dn{n:Nat}{l:Array Bool}{a:Act}{w:World}(h:Q .normal a w)(hr:Region.ready md ops l=[]:=by kernel_rfl):ah P md ops Q C st n l a w:=ah.done hr h n
theorem di{K:Act->World->Prop}{T:World->Prop}{A:Act->World->Prop}(hK:Shut (∀a w,T w->A a w->K a w)){a a':Act}{w:World}(hC:T w)(h:A a' w)(ha:a=a':=by ((try simp only[Act.put,List.setIfInBounds_toArray,List.set_cons_zero,List.set_cons_succ]);exact rfl)):K a w:=by
 subst ha;exact hK _ _ hC h
theorem goF{K:Act->World->Prop}{a a':Act}{w:World}(h:K a' w)(ha:a=a':=by ((try simp only[Act.put,List.setIfInBounds_toArray,List.set_cons_zero,List.set_cons_succ]);exact rfl)):K a w:=by
 subst ha;exact h
theorem ah.acF(i:Nat){o:Oper}{n:Nat}{l:Array Bool}{a a':Act}{w w':World}(hC:Till C st (l.setIfInBounds i true) w')(h:ah P md ops Q C st n (l.setIfInBounds i true) a' w')(ho:ops[i]?=o:=by exact aB rfl)(hr:Region.ready md ops l=[i]:=by kernel_rfl)(k:∀K:Act->World->Prop,K a' w'->if Region.wanted o (yielded ops a.tmps)=true then Oper.wp P o a w K Q else K (a.put o.dst undef) w:=by intro K hh;go_simp;exact goF hh):ah P md ops Q C st (n+1) l a w:=ah.one hr ho λK hK=>k K (hK _ _ hC h)
theorem ah.oe(i:Nat){o:Oper}{n:Nat}{l:Array Bool}{a a':Act}{w w':World}(h:ah P md ops Q C st n (l.setIfInBounds i true) a' w')(ho:ops[i]?=o:=by exact aB rfl)(hr:Region.ready md ops l=[i]:=by kernel_rfl)(hC:Till C st (l.setIfInBounds i true) w':=by exact λh=>absurd h zD)(k:∀K:Act->World->Prop,K a' w'->if Region.wanted o (yielded ops a.tmps)=true then Oper.wp P o a w K Q else K (a.put o.dst undef) w:=by intro K hh;go_simp;exact hh):ah P md ops Q C st (n+1) l a w:=ah.one hr ho λK hK=>k K (hK _ _ hC h)
theorem iW{K:Act->World->Prop}{T:World->Prop}{A:Act->World->Prop}(hK:Shut (∀a w,T w->A a w->K a w)){a:Act}{w:World}(h:A a w)(hC:T w:=by exact λh=>absurd h zD):K a w:=hK _ _ hC h
end
theorem aac{md:Region.Mode}{S:World->Prop}(i:Nat){oi:Oper}{v:Value}{n:Nat}{l:Array Bool}{a':Act}(h:wpAnyH P md ops Q S n (l.setIfInBounds i true) a' w)(hi:ops[i]?=oi:=by exact aB rfl)(hs:Region.noSelect ops=true:=by kernel_rfl)(hf:Region.free md ops l i=true:=by kernel_rfl)(hr:(Region.ready md ops l).contains i=true:=by kernel_rfl)
 (hy:YieldsIf P ops S oi v a:=by (refine Or.inl ⟨zL,?_⟩;intro w hSw;(try dsimp only at hSw);go_simp;all_goals (try with_reducible rfl))) (hQ:∀c a w,Q (.panic c) (a.put oi.dst v) w->Q (.panic c) a w:=by exact λ_ _ _ h=>h) (hS:S w:=by assumption) (ha:a.put oi.dst v=a':=by ((try simp only[Act.put,List.setIfInBounds_toArray,List.set_cons_zero,List.set_cons_succ]);exact rfl)):wpAnyH P md ops Q S (n+1) l a w:=by
 subst ha;exact wpAnyH_take hi hs hf hr hQ hy hS h
abbrev Held (C:World->Prop) (w:World):Prop:=C w
theorem ah.stH(_:Held C w.drew)(st:Nat)(h:ah P .any ops Q C st ops.size (Array.replicate ops.size false) a w.drew)(hm:P.follows .mixedOrders=true:=by kernel_rfl):(Code.region id ops true).wp P Q a w:=ah.start C st hm h
theorem ah.stN{w0:World}(_:Hid (∀V,Bw w0 V->C V))(st:Nat)(h:ah P .any ops Q C st ops.size (Array.replicate ops.size false) a w.drew)(hm:P.follows .mixedOrders=true:=by kernel_rfl):(Code.region id ops true).wp P Q a w:=ah.start C st hm h
section
variable {F:Fence} {n:Nat} {P:Program} {ops:Array Oper} {Q:Exit->Act->World->Prop} {md:Region.Mode} {C:World->Prop} {st:Nat}
def o7(P:Program)(ops:Array Oper)(C:World->Prop)(o:Oper)(v:Value)(a:Act):Prop:=YieldsIf P ops C o v a/\∀w,o.about P w a.eval=none
theorem o7.wpOpIn{i:Nat}{o:Oper}{v:Value}{a:Act}(Cf:F.round=none)(hi:ops[i]?=o)(hy:o7 P ops C o v a)
 {K:Act->World->Prop} {w:World} (hC:C w) (h:K (a.put o.dst v) w):wpOpIn F n P ops Q i K a w:=by
 unfold Go.wpOpIn;simp only[hi];have nz:∀f,o.about P w a.eval=some f->F.fn f:=λf hf=>(by rw[hy.2 w] at hf;cases hf)
 rcases hy.1 with ⟨hw,hv⟩ | ⟨hw,rfl⟩
 ·simp only[hw,if_true,Oper.wpIn,Cf,Oper.semAt_none,hv w hC,Oper.uponIn];exact⟨nz,h⟩
 simp only[hw,b6,if_false];exact⟨nz,h⟩
theorem o7.of_same{o:Oper}{v:Value}{a a':Act}(hy:o7 P ops C o v a)(he:execOp a'.eval o=execOp a.eval o)
 (hw:Region.wanted o (yielded ops a'.tmps)=Region.wanted o (yielded ops a.tmps)) (hb:∀w,o.about P w a'.eval=o.about P w a.eval):o7 P ops C o v a':=
 ⟨hy.1.of_same he hw,λw=>by rw[hb w];exact hy.2 w⟩
theorem UN{j:Nat}{oi oj:Oper}{v:Value}(Cf:F.round=none)(hj:ops[j]?=oj)(hap:oi.apart ops oj=true)
 (hsi:∀cs b,oi.op≠.select cs b) (hsj:∀cs b,oj.op≠.select cs b)
 (hQ:∀c a w,Q (.panic c) (a.put oi.dst v) w->Q (.panic c) a w) {K:Act->World->Prop} {a:Act} {w:World}
 (hy:o7 P ops C oi v a) (h:wpOpIn F n P ops Q j K (a.put oi.dst v) w):
 wpOpIn F n P ops Q j (λa' w'=>o7 P ops C oi v a'/\K (a'.put oi.dst v) w') a w:=by
 obtain⟨h1,h2,h3⟩:=Oper.apart_spec hap
 have keep:∀(a:Act),o7 P ops C oi v a->∀u,o7 P ops C oi v (a.put oj.dst u):=λa hy u=>
  hy.of_same (execOp_put oi hsi a oj.dst u h3) (wanted_put oi a oj.dst u h3) (λw=>about_put oi w a oj.dst u h3)
 have keepD:∀d,o7 P ops C oi v { a with defers:=d::a.defers }:=λd=>hy.of_same rfl rfl (λ_=>rfl);unfold wpOpIn at*;simp only[hj] at*;rw[wanted_put oj a oi.dst v h1,about_put oj w a oi.dst v h1] at h
 split
 ·rename_i hw;simp only[hw,if_true] at h;unfold Oper.wpIn at*;rw[about_put oj w a oi.dst v h1] at h;refine⟨h.1,?_⟩;have h:=h.2;rw[Cf,Oper.semAt_none,execOp_put oj hsj a oi.dst v h1] at h;rw[Cf,Oper.semAt_none];generalize (execOp a.eval oj).run P w=r at*
  cases r with
  | ok x w'=>
    cases x<;>simp only[Oper.uponIn] at h ⊢
    case value u=>exact⟨keep a hy u,by rw[<-Act.put_comm a v u h2];exact h⟩
    case skip=>exact⟨keep a hy _,by rw[<-Act.put_comm a v undef h2];exact h⟩
    case defer d=>
     refine⟨keep _ (keepD d) _,?_⟩;rw[<-Act.put_comm _ v undef h2,<-Act.put_defers];exact h
    case enter f args=>
     refine⟨h.1,CallsIn.mono h.2 λe w'' he=>?_⟩
     cases e with
     | returned u=>exact⟨keep a hy u,by rw[<-Act.put_comm a v u h2];exact he⟩
     | panicked c=>exact hQ _ _ _ he
     | outgrown=>exact he
    case row row args=>exact⟨h.1,RowsIn.mono h.2 λu w'' he=>⟨keep a hy u,by rw[<-Act.put_comm a v u h2];exact he⟩⟩
    case round l f tmps assign body=>
     refine⟨h.1,RoundIn.mono h.2 λe w'' he=>?_⟩
     cases e with
     | returned u=>exact⟨keep a hy u,by rw[<-Act.put_comm a v u h2];exact he⟩
     | panicked c=>exact hQ _ _ _ he
     | outgrown=>exact he
  | halt x w'=>
    cases x<;>simp only[Oper.uponIn] at h ⊢
    case panic u=>exact hQ _ _ _ h
 rename_i hw;simp only[hw] at h;exact⟨h.1,keep a hy _,by rw[<-Act.put_comm a v undef h2];exact h.2⟩
def EL(md:Region.Mode)(ops:Array Oper)(l:Array Bool):Prop:=∀j o,ops[j]?=some o->l.getD j true=true->∀e∈o.after,Region.binds md e=true->l.getD e.on true=true
def MF(md:Region.Mode)(ops:Array Oper)(l:Array Bool):Bool:=(List.range ops.size).all λj=>match ops[j]? with
 | some o=>!(l.getD j true)||o.after.toList.all λe=>!(Region.binds md e)||l.getD e.on true
 | none=>true
theorem RS{l:Array Bool}(h:MF md ops l=true):EL md ops l:=λj o ho hl e he hb=>by
 unfold MF at h;rw[List.all_eq_true] at h;have h1:=h j (by rw[List.mem_range];exact(Array.getElem?_eq_some_iff.1 ho).1);rw[ho] at h1;simp only[hl,Bool.not_true,Bool.false_or,List.all_eq_true] at h1;have h2:=h1 e (by simpa using he);rw[hb] at h2;simpa using h2
theorem EL.set{l:Array Bool}{j:Nat}(h:EL md ops l)(hj:j∈Region.ready md ops l):EL md ops (l.setIfInBounds j true):=λk o ho hl e he hb=>by
 have up:∀q,l.getD q true=true->(l.setIfInBounds j true).getD q true=true:=λq hq=>by
  by_cases hjq:j=q
  ·subst hjq
   rcases i8 j l.size with aN | jT
   ·simp[aN]
   simp[jT]
  rw[getD_set_ne true hjq];exact hq
 by_cases FB:j=k
 ·subst FB;obtain⟨_,o',yR,dW⟩:=mem_ready.1 hj;rw[ho] at yR;obtain rfl:=zI yR;have h1:=dW e he hb;refine up _ ?_
  rcases i8 e.on l.size with aN | jT
  ·simp[aN] at h1 ⊢;exact h1
  simp[Array.getElem?_eq_none jT]
 rw[getD_set_ne true FB] at hl;exact up _ (h k o ho hl e he hb)
def Ia(md:Region.Mode)(ops:Array Oper):List Nat->Bool
 | x::y::r=>(match ops[y]? with
   | some o=>o.after.toList.any λe=>Region.binds md e&&e.on==x
   | none=>false)&&Ia md ops (y::r)
 | _=>true
theorem XF{l:Array Bool}(h:EL md ops l):∀(r:List Nat) (x y:Nat),l.getD x true=false->Ia md ops (x::y::r)=true->(y::r).getLast?=st->st ∉ Region.ready md ops l:=by
 have edge:∀(x y:Nat),(match ops[y]? with
  | some o=>o.after.toList.any λe=>Region.binds md e&&e.on==x
  | none=>false)=true->∃o e,ops[y]?=some o/\e∈o.after/\Region.binds md e=true/\e.on=x:=λx y hy=>by
  cases ho:ops[y]? with
  | none=>rw[ho] at hy;cases hy
  | some o=>
    rw[ho] at hy;simp only[Qc,z7,beq_iff_eq] at hy;obtain⟨e,he,hb,hx⟩:=hy;exact⟨o,e,rfl,by simpa using he,hb,hx⟩
 intro r
 induction r with
 | nil=>
   intro x y hx hp hl hr;rw[Ia,z7] at hp;obtain⟨o,e,ho,he,hb,hon⟩:=edge x y hp.1;have bZ:y=st:=(by simpa using hl);subst bZ;obtain⟨_,o',yR,dW⟩:=mem_ready.1 hr;rw[ho] at yR;obtain rfl:=zI yR;have h1:=dW e he hb;rw[hon] at h1
   rcases i8 x l.size with aN | jT
   ·simp[aN] at h1 hx;rw[hx] at h1;cases h1
   simp[Array.getElem?_eq_none jT] at hx
 | cons z r ih=>
   intro x y hx hp hl;rw[Ia,z7] at hp;obtain⟨o,e,ho,he,hb,hon⟩:=edge x y hp.1
   have hy:l.getD y true=false:=by
    cases hyv:l.getD y true with
    | false=>rfl
    | true=>
      have:=h y o ho hyv e he hb;rw[hon,hx] at this;cases this
   exact ih y z hy hp.2 (by simpa using hl)
def aP(F:Fence)(n:Nat)(P:Program)(md:Region.Mode)(ops:Array Oper)(Q:Exit->Act->World->Prop)(C:World->Prop)(st:Nat):Nat->Array Bool->Act->World->Prop
 | 0,l,a,w=>Region.ready md ops l=[]/\Q .normal a w
 | k+1,l,a,w=>(Region.ready md ops l=[]->Q .normal a w)/\
   ∀i∈Region.ready md ops l,wpOpIn F n P ops Q i (λa' w'=>Till C st (l.setIfInBounds i true) w'/\aP F n P md ops Q C st k (l.setIfInBounds i true) a' w') a w
theorem aP.any:∀(k:Nat) (l:Array Bool) (a:Act) (w:World),aP F n P md ops Q C st k l a w->wpAnyIn F n P md ops Q k l a w
 | 0,_,_,_,h=>h
 | k+1,_,_,_,h=>⟨h.1,λi hi=>wpOpIn_mono (λa' w' h'=>aP.any k _ a' w' h'.2) (h.2 i hi)⟩
theorem aP.first{i:Nat}{oi:Oper}{v:Value}{y:Nat}{r:List Nat}(Cf:F.round=none)(hi:ops[i]?=oi)(hp:Ia md ops (i::y::r)=true)(hl:(y::r).getLast?=st)
 (CW:∀(j:Nat) (o:Oper) cs b,ops[j]?=o->o.op≠.select cs b) (hQ:∀c a w,Q (.panic c) (a.put oi.dst v) w->Q (.panic c) a w):
 ∀(k:Nat) (l:Array Bool) (a:Act) (w:World),EL md ops l->
  (∀j oj,ops[j]?=some oj->j≠i->l.getD j true=false->(∀e∈oj.after,Region.binds md e=true->e.on≠i)->oi.apart ops oj=true)->
  i∈Region.ready md ops l->l.getD st true=false->i≠st->o7 P ops C oi v a->C w->
  aP F n P md ops Q C st k (l.setIfInBounds i true) (a.put oi.dst v) w->aP F n P md ops Q C st (k+1) l a w:=by
 intro k
 induction k with
 | zero=>
   intro l a w _ _ hr hs oP hy hC H;refine⟨λh=>(by rw[h] at hr;cases hr),λj hj=>?_⟩;by_cases mg:j=i
   ·rw[mg];exact hy.wpOpIn Cf hi hC ⟨λ_=>hC,H⟩
   have h0:=ready_mono hj mg;rw[H.1] at h0;cases h0
 | succ k ih=>
   intro l a w eH yz hr hs oP hy hC H;refine⟨λh=>(by rw[h] at hr;cases hr),λj hj=>?_⟩;by_cases mg:j=i
   ·rw[mg];exact hy.wpOpIn Cf hi hC ⟨λ_=>hC,H⟩
   obtain⟨JL,oj,AB,dW⟩:=mem_ready.1 hj;have Fg:=(mem_ready.1 hr).1
   have La:∀e∈oj.after,Region.binds md e=true->e.on≠i:=λe he hb heq=>by
    have h1:=dW e he hb;rw[heq] at h1
    rcases i8 i l.size with aN | jT
    ·simp[aN] at Fg h1;rw[Fg] at h1;cases h1
    simp[Array.getElem?_eq_none jT] at h1
   have ZE:j≠st:=λe=>XF eH r i y Fg hp hl (e ▸ hj);have h2:=UN Cf AB (yz j oj AB mg JL La) (λcs b=>CW i oi cs b hi) (λcs b=>CW j oj cs b AB) hQ hy (H.2 j (ready_mono hj mg));refine wpOpIn_mono (λa' w' h3=>?_) h2;obtain⟨QO,hT,hA⟩:=h3;have uS:(l.setIfInBounds j true).getD st true=false:=(by rw[getD_set_ne true ZE];exact hs);have hC':C w':=hT (by rw[getD_set_ne true ZE,getD_set_ne true oP];exact hs);refine⟨λ_=>hC',ih (l.setIfInBounds j true) a' w' (eH.set hj) (λk ok hk o9 JM BL=>?_) (ready_mono hr (Ne.symm mg)) uS oP QO hC' ?_⟩
   ·refine yz k ok hk o9 ?_ BL;by_cases FB:j=k
    ·rw[<-FB];exact JL
    rw[getD_set_ne true FB] at JM;exact JM
   rw[Array.setIfInBounds_comm _ _ mg];exact hA
theorem aP.take{i:Nat}{oi:Oper}{v:Value}{k:Nat}{l:Array Bool}{a:Act}{w:World}(y:Nat)(r:List Nat)(Cf:F.round=none)(hi:ops[i]?=oi)(hp:Ia md ops (i::y::r)=true)(hl:(y::r).getLast?=st)
 (hs:Region.noSelect ops=true) (eH:MF md ops l=true) (hf:Region.free md ops l i=true) (hr:(Region.ready md ops l).contains i=true) (bZ:l.getD st true=false) (oP:i≠st)
 (hQ:∀c a w,Q (.panic c) (a.put oi.dst v) w->Q (.panic c) a w) (hy:o7 P ops C oi v a) (hC:C w)
 (h:aP F n P md ops Q C st k (l.setIfInBounds i true) (a.put oi.dst v) w):aP F n P md ops Q C st (k+1) l a w:=
 aP.first Cf hi hp hl (Region.noSelect_spec hs) hQ k l a w (RS eH) (Region.free_spec hi hf) (by simpa using hr) bZ oP hy hC h
theorem aP.tk(i y:Nat)(r:List Nat){oi:Oper}{v:Value}{k:Nat}{l:Array Bool}{a a':Act}{w:World}(hC:C w)(h:aP F n P md ops Q C st k (l.setIfInBounds i true) a' w)(Cf:F.round=none:=by rfl)(hi:ops[i]?=oi:=by exact aB rfl)(hl:(y::r).getLast?=st:=by kernel_rfl)(hb:(okT md ops st i l&&(Ia md ops (i::y::r)&&(MF md ops l&&!l.getD st true)))=true:=by kernel_rfl)
 (hy:o7 P ops C oi v a:=by (first | exact⟨Or.inr ⟨zL,rfl⟩,λ_=>rfl⟩ | (refine⟨Or.inl ⟨zL,?_⟩,λ_=>rfl⟩;intro w hSw;(try dsimp only at hSw);go_simp;all_goals (try with_reducible rfl)))) (hQ:∀c a w,Q (.panic c) (a.put oi.dst v) w->Q (.panic c) a w:=by exact λ_ _ _ h=>h) (ha:a.put oi.dst v=a':=by ((try simp only[Act.put,List.setIfInBounds_toArray,List.set_cons_zero,List.set_cons_succ]);exact rfl)):aP F n P md ops Q C st (k+1) l a w:=by
 subst ha;simp only[z7] at hb;obtain⟨h1,h2,h3,h4⟩:=NK hb.1;exact aP.take y r Cf hi hb.2.1 hl h1 hb.2.2.1 h2 h3 (by simpa using hb.2.2.2) h4 hQ hy hC h
theorem aP.done{l:Array Bool}{a:Act}{w:World}(hr:Region.ready md ops l=[])(h:Q .normal a w):∀k,aP F n P md ops Q C st k l a w
 | 0=>⟨hr,h⟩
 | _+1=>⟨λ_=>h,by rw[hr];simp⟩
theorem aP.one{i:Nat}{o:Oper}{k:Nat}{l:Array Bool}{a:Act}{w:World}(hr:Region.ready md ops l=[i])(ho:ops[i]?=o)
 (h:∀K:Act->World->Prop,Shut (∀a w,(Till C st (l.setIfInBounds i true) w)->aP F n P md ops Q C st k (l.setIfInBounds i true) a w->K a w)->if Region.wanted o (yielded ops a.tmps)=true then Oper.wpIn F n P o a w K Q else (∀f,o.about P w a.eval=some f->F.fn f)/\K (a.put o.dst undef) w):aP F n P md ops Q C st (k+1) l a w:=by
 refine⟨λh0=>(by rw[h0] at hr;cases hr),λj hj=>?_⟩;rw[hr,og] at hj;rw[hj];exact wpOpIn_step ho λK hK=>h K λa w h1 h2=>hK a w ⟨h1,h2⟩
theorem aP.on(i:Nat){o:Oper}{k:Nat}{l:Array Bool}{a:Act}{w:World}(h:∀K:Act->World->Prop,Shut (∀a w,(Till C st (l.setIfInBounds i true) w)->aP F n P md ops Q C st k (l.setIfInBounds i true) a w->K a w)->if Region.wanted o (yielded ops a.tmps)=true then Oper.wpIn F n P o a w K Q else (∀f,o.about P w a.eval=some f->F.fn f)/\K (a.put o.dst undef) w)(ho:ops[i]?=o:=by exact aB rfl)(hr:Region.ready md ops l=[i]:=by kernel_rfl):aP F n P md ops Q C st (k+1) l a w:=aP.one hr ho h
theorem aP.acF(i:Nat){o:Oper}{k:Nat}{l:Array Bool}{a a':Act}{w w':World}(hC:Till C st (l.setIfInBounds i true) w')(h:aP F n P md ops Q C st k (l.setIfInBounds i true) a' w')(ho:ops[i]?=o:=by exact aB rfl)(hr:Region.ready md ops l=[i]:=by kernel_rfl)(g:∀K:Act->World->Prop,K a' w'->if Region.wanted o (yielded ops a.tmps)=true then Oper.wpIn F n P o a w K Q else (∀f,o.about P w a.eval=some f->F.fn f)/\K (a.put o.dst undef) w:=by intro K hh;go_simp;exact goF hh):aP F n P md ops Q C st (k+1) l a w:=aP.one hr ho λK hK=>g K (hK _ _ hC h)
theorem aP.oe(i:Nat){o:Oper}{k:Nat}{l:Array Bool}{a a':Act}{w w':World}(h:aP F n P md ops Q C st k (l.setIfInBounds i true) a' w')(ho:ops[i]?=o:=by exact aB rfl)(hr:Region.ready md ops l=[i]:=by kernel_rfl)(hC:Till C st (l.setIfInBounds i true) w':=by exact λh=>absurd h zD)(g:∀K:Act->World->Prop,K a' w'->if Region.wanted o (yielded ops a.tmps)=true then Oper.wpIn F n P o a w K Q else (∀f,o.about P w a.eval=some f->F.fn f)/\K (a.put o.dst undef) w:=by intro K hh;go_simp;exact hh):aP F n P md ops Q C st (k+1) l a w:=aP.one hr ho λK hK=>g K (hK _ _ hC h)
theorem aP.dn{k:Nat}{l:Array Bool}{a:Act}{w:World}(h:Q .normal a w)(hr:Region.ready md ops l=[]:=by kernel_rfl):aP F n P md ops Q C st k l a w:=aP.done hr h k
theorem aP.start{id:Nat}{a:Act}{w:World}(C:World->Prop)(st:Nat)(hm:P.follows .mixedOrders=true)(h:aP F n P .any ops Q C st ops.size (Array.replicate ops.size false) a w.drew):(Code.region id ops true).wpIn F n P Q a w:=
 wpIn_region_any hm (aP.any _ _ _ _ h)
end
