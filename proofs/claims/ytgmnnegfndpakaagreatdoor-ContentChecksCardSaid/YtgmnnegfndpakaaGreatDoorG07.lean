import Derived.Test.YtgmnnegfndpakaaGreatDoorG06
import Derived.RangeFuncNested
import Derived.RangeFuncBound
import Derived.RangeFuncCalls
import Derived.RangeFuncLeaves
import Derived.OwnWalkIn
import Derived.TacticsInMore
import Derived.LoopNIn
import Derived.LoopIn
set_option maxHeartbeats 20000000
set_option maxRecDepth 100000
namespace Go.Proofs.YtgmnnegfndpakaaGreatDoor
open Go.RowKit
theorem dF{M:Nat->Prop}(W:World)(l:Nat)(o:Obj)(h:M l):Kept M W (W.putObj l o):=by
 have g:=grownBy_putObj' W l o;exact⟨g.os,g.tape,g.output,g.size,λk hk hm=>g.block k hk (λe=>hm (by rw[zI e];exact h))⟩
theorem fE{M M':Nat->Prop}{a b:World}(h:Kept M a b)(hm:∀k,M k->M' k):Kept M' a b:=⟨h.os,h.tape,h.output,h.size,λk hk hn=>h.block k hk (λe=>hn (hm k e))⟩
def aps{α:Type}(P:Program)(g:Nat)(lb:Array Value)(encs:α->Array Value)(X:Nat->Prop)(S Sp Bd:List α->Prop)(w0:World):Prop:=
 ∀(n l:Nat) (J:Nat->List α->World->Prop) (Jx:List α->World->Prop) (W:World),Kept X w0 W->(∀hi pre A,J hi pre A->Bd pre)->
  (∀hi pre A B,J hi pre A->W.heap.size<=hi->hi<=A.heap.size->Kept (λk=>W.heap.size<=k/\k<hi) A B->J hi pre B)->
  (∀hi A,J hi [] A->W.heap.size<=hi->hi<=A.heap.size->J A.heap.size [] A)->
  (∀m hi pre x A,J hi pre A->Sp (pre++[x])->W.heap.size<=hi->hi<=A.heap.size->YieldAt Fence.wide m P l (encs x) A λe B=>
    (e= .returned (.bool true)/\J hi (pre++[x]) B/\Kept (λk=>(k<W.heap.size/\X k)\/hi<=k) A B)\/(e= .returned (.bool false)/\Jx (pre++[x]) B))->
  J W.heap.size [] W->
  CallsIn Fence.wide n P g (#[.func (.yield l) #[] #[]]++lb) W λe B=>(∃v,e= .returned v)/\((∃hi xs,S xs/\J hi xs B)\/(∃pre,Sp pre/\Jx pre B))
def arv{α:Type}(lo hi:Nat)(X:Nat->Prop)(I:Nat->List α->World->Prop)(Ix:Code->List α->World->Prop)(xs:List α)(W:World):Exit->Act->World->Prop
 | .normal,_,W'=>Kept (λk=>(k<lo/\X k)\/hi<=k) W W'/\I hi xs W'
 | .ret,_,W'=>Kept (λk=>(k<lo/\X k)\/hi<=k) W W'/\Ix .ret xs W'
 | .exit id,_,W'=>Kept (λk=>(k<lo/\X k)\/hi<=k) W W'/\Ix (.exit id) xs W'
 | .goto t,_,W'=>Kept (λk=>(k<lo/\X k)\/hi<=k) W W'/\Ix (.goto t) xs W'
 | .panic _,_,_=>False
 | .outgrown,_,_=>False
theorem WJ{α:Type}{P:Program}{n:Nat}{g:Operand}{ps:Array Tmp}{assign body:Code}{Q:Exit->Act->World->Prop}{a:Act}{w:World}
 {gf:Nat} {lb:Array Value} (hg:a.eval g= .func (.func gf) #[] lb) (eg:∀args w,(callFunc gf args).run P w= .ok (.enter gf args) w)
 {encs:α->Array Value} {X:Nat->Prop} {S Sp Bd:List α->Prop} {w0:World} (yQ:aps P gf lb encs X S Sp Bd w0) (GR:Kept X w0 w) (hX:¬X w.heap.size/\¬X (w.heap.size+1)) (ZC:∀x,(encs x).size=ps.size)
 (I:Nat->List α->World->Prop) (Ix:Code->List α->World->Prop) (hBd:∀hi pre W,I hi pre W->Bd pre)
 (hI:∀hi pre A B,I hi pre A->w.heap.size+2<=hi->hi<=A.heap.size->Kept (λk=>w.heap.size<=k/\k<hi) A B->I hi pre B)
 (hI0:∀hi A,I hi [] A->w.heap.size+2<=hi->hi<=A.heap.size->I A.heap.size [] A)
 (hIx:∀c pre A B,Ix c pre A->Kept (λk=>w.heap.size<=k/\k<w.heap.size+2) A B->Ix c pre B)
 (h0:∀W,Bw w W->w.heap.size+2<=W.heap.size->I (w.heap.size+2) [] W)
 (a₁:α->World->Act) (wA:α->World->World) (hA:∀x W,Bw W (wA x W))
 (hassign:∀(m l:Nat) (x:α) (W:World) (K:Act->World->Prop),K (a₁ x W) (wA x W)->
   assign.wpIn (Fence.wide.inRound l) m P (Exit.then K (λ_ _ _=>False)) { tmps:=(ps.zip (encs x)).foldl (λt (p,v)=>t.setIfInBounds p v) a.tmps,defers:=[] } W)
 (WL:∀(m l hi:Nat) (pre:List α) (x:α) (W W2:World),I hi pre W2->Sp (pre++[x])->w.heap.size+2<=hi->hi<=W.heap.size->Kept (λk=>k=w.heap.size+1) (wA x W) W2->
   body.wpIn (Fence.wide.inRound l) m P (arv (w.heap.size+2) hi X I Ix (pre++[x]) W2) (a₁ x W) W2)
 (WM:∀(hi:Nat) (xs:List α) (W:World),S xs->I hi xs W->W.heap[w.heap.size]?=some (.deferred (some []))->Q .normal { a with defers:={ target:=.collected w.heap.size,args:=#[] }::a.defers } W)
 (WN:∀(c:Code) (pre:List α) (W:World),Sp pre->Ix c pre W->W.heap[w.heap.size]?=some (.deferred (some []))->c.wpIn Fence.wide n P Q { a with defers:={ target:=.collected w.heap.size,args:=#[] }::a.defers } W):
 (Code.rangeFunc g ps assign body).wpIn Fence.wide n P Q a w:=by
 refine wpIn_rangeFunc ?_;intro fn IU;obtain⟨rec,oD⟩:∃rec:LoopState->Option Code->Loop,rec=λst pe=>{ state:=st,pending:=pe,fn,tmps:=a.tmps,params:=ps,assign,body,defers:=w.heap.size }:=⟨_,rfl⟩;obtain⟨W1,hW1⟩:=zF ((w.alloc (.deferred (some []))).alloc (.loop (rec .ready none)))
 have nC:W1.heap.size=w.heap.size+2:=by rw[<-hW1];simp
 have hL1:W1.heap[w.heap.size+1]?=some (.loop (rec .ready none)):=by
  rw[<-hW1];have:=World.alloc_heap_new (w.alloc (.deferred (some []))) (.loop (rec .ready none));rwa [World.size_alloc] at this
 have hK1:W1.heap[w.heap.size]?=some (.deferred (some [])):=by
  rw[<-hW1];exact(Below.heap_alloc _ _ _ zP).trans (World.alloc_heap_new w _)
 have ai:Bw w W1:=by
  rw[<-hW1];exact((Below.refl _ w).alloc (zR _) _).alloc zP _
 refine⟨w.heap.size+1,[{ target:=.collected w.heap.size,args:=#[] }],W1,{ target:=.fn (.func gf) lb,args:=#[.func (.yield (w.heap.size+1)) #[] #[]] },W1,gf,
  #[.func (.yield (w.heap.size+1)) #[] #[]]++lb,W1,?_,?_,λ_ _=>trivial,?_,λh=>by simp[Fence.wide] at h,?_⟩
 ·rw[<-hW1,oD];exact run_enterLoop_outer _ _ _ _ _
 ·simp only[resolve,hg]
  simp[go_sem]
 ·simp[invoke,go_sem,eg]
 ·refine ((callsIn_wide (n:=n)).1 (yQ n (w.heap.size+1)
   (λhi pre W=>I hi pre W/\w.heap.size+2<=hi/\hi<=W.heap.size/\W.heap[w.heap.size+1]?=some (.loop (rec .ready none))/\W.heap[w.heap.size]?=some (.deferred (some [])))
   (λpre W=>∃c,Ix c pre W/\W.heap[w.heap.size+1]?=some (.loop (rec .done (some c)))/\W.heap[w.heap.size]?=some (.deferred (some [])))
   W1 (GR.trans (Kept.of_below ai)) (λhi pre A h=>hBd hi pre A h.1) ?s1 ?s0 ?sy ⟨nC ▸ h0 W1 ai zO,zO,zO,hL1,hK1⟩) |> λh=>(callsIn_wide (n:=n - 1)).2 h).mono ?sr
  case s1=>
   rintro hi pre A B ⟨h1,h2,h3,h4,h5⟩ o8 yx hk;refine⟨hI hi pre A B h1 h2 h3 (fE hk λk hk=>⟨zO,hk.2⟩),h2,zT h3 hk.size,?_,?_⟩
   ·exact(hk.block _ (aC h4) zO).trans h4
   ·exact(hk.block _ (aC h5) zO).trans h5
  case s0=>
   rintro hi A ⟨h1,h2,h3,h4,h5⟩ _ _;exact⟨hI0 hi A h1 h2 h3,zO,zR _,h4,h5⟩
  case sy=>
   rintro m hi pre x W ⟨hi1,o8,yx,hl,hk⟩ hlen - -;have aN:=aC hl;have hy:=run_yield (P:=P) (args:=encs x) hl (by rw[oD];exact ZC x);rw[oD] at hy;have AA:=hA x W;have hlA:(wA x W).heap[w.heap.size+1]?=some (.loop (rec .ready none)):=ae hl AA;have hkA:(wA x W).heap[w.heap.size]?=some (.deferred (some [])):=ae hk AA;refine⟨fn,_,assign,body,hy,roundIn_of_wpIn IU (hassign _ _ x W _ ⟨_,run_beginRound hlA (by rw[oD]),?_⟩)⟩;have dm:Kept (λk=>k=w.heap.size+1) (wA x W) ((wA x W).putObj (w.heap.size+1) (.loop { rec .ready none with state:=.busy })):=dF _ _ _ rfl;have lW:((wA x W).putObj (w.heap.size+1) (.loop { rec .ready none with state:=.busy })).heap[w.heap.size+1]?=some (.loop { rec .ready none with state:=.busy }):=World.putObj_heap_same (aC hlA);have jc:((wA x W).putObj (w.heap.size+1) (.loop { rec .ready none with state:=.busy })).heap[w.heap.size]?=some (.deferred (some [])):=(World.putObj_heap_other zO).trans hkA;have oW:hi<=((wA x W).putObj (w.heap.size+1) (.loop { rec .ready none with state:=.busy })).heap.size:=zT (zT yx AA.size) dm.size;obtain⟨W2,hW2⟩:∃W2,(wA x W).putObj (w.heap.size+1) (.loop { rec .ready none with state:=.busy })=W2:=⟨_,rfl⟩;rw[hW2] at dm lW jc oW ⊢;have hi2:I hi pre W2:=hI hi pre (wA x W) W2 (hI hi pre W (wA x W) hi1 o8 yx ((Kept.of_below AA (M:=λk=>w.heap.size<=k/\k<hi)))) o8 (zT yx AA.size) (fE dm λk e=>by rw[e];omega);refine wpIn_mono (WL _ _ hi pre x W W2 hi2 hlen o8 yx dm) ?_
   have fin:∀(jump:Option Code) (W3:World),Kept (λk=>(k<w.heap.size+2/\X k)\/hi<=k) W2 W3->
    (Instr.endRound (w.heap.size+1) jump).run P W3= .ok (.bool jump.isNone) (W3.putObj (w.heap.size+1) (.loop (rec (if jump.isNone then .ready else .done) jump)))/\
    (W3.putObj (w.heap.size+1) (.loop (rec (if jump.isNone then .ready else .done) jump))).heap[w.heap.size+1]?=some (.loop (rec (if jump.isNone then .ready else .done) jump))/\
    (W3.putObj (w.heap.size+1) (.loop (rec (if jump.isNone then .ready else .done) jump))).heap[w.heap.size]?=some (.deferred (some []))/\w.heap.size+1<W3.heap.size:=λjump W3 bW=>by
    have QN:W3.heap[w.heap.size+1]?=some (.loop { rec .ready none with state:=.busy }):=(bW.block _ (aC lW) (by rintro (⟨_,h⟩ | h);exact hX.2 h;omega)).trans lW;have sZ:W3.heap[w.heap.size]?=some (.deferred (some [])):=(bW.block _ (aC jc) (by rintro (⟨_,h⟩ | h);exact hX.1 h;omega)).trans jc;have:=run_endRound (P:=P) jump QN;rw[oD] at this ⊢;exact⟨this,World.putObj_heap_same (aC QN),(World.putObj_heap_other zO).trans sZ,aC QN⟩
   rintro e a3 W3 hp
   cases e with
   | normal=>
     obtain⟨bW,hi3⟩:=hp;obtain⟨hr,vK,jl,EC⟩:=fin none W3 bW;refine⟨_,_,hr,.inl ⟨rfl,⟨hI hi _ W3 _ hi3 o8 (zT oW bW.size) (dF _ _ _ zO),o8,?_,vK,jl⟩,?_⟩⟩
     ·exact zT (zT oW bW.size) (grownBy_putObj' W3 _ _).size
     ·have dW:Kept (λk=>((k<w.heap.size+2/\X k)\/hi<=k)\/k=w.heap.size+1) W (W3.putObj (w.heap.size+1) (.loop (rec (if (none:Option Code).isNone then .ready else .done) none))):=
          (((Kept.of_below AA).trans (fE dm λk e=>.inr e)).trans (fE bW λk e=>.inl e)).trans (dF _ _ _ (.inr rfl))
      refine⟨dW.os,dW.tape,dW.output,dW.size,λk fM hm=>?_⟩;by_cases e:k=w.heap.size+1
      ·rw[e,hl];exact vK
      ·exact dW.block k fM (by
        rintro (h | h)
        ·exact hm (by rw[nC];exact h)
        ·exact e h)
   | ret=>
     obtain⟨bW,hi3⟩:=hp;obtain⟨hr,vK,jl,EC⟩:=fin (some .ret) W3 bW;exact⟨_,_,hr,.inr ⟨rfl,.ret,hIx _ _ _ _ hi3 (dF _ _ _ zO),vK,jl⟩⟩
   | exit id=>
     obtain⟨bW,hi3⟩:=hp;obtain⟨hr,vK,jl,EC⟩:=fin (some (.exit id)) W3 bW;exact⟨_,_,hr,.inr ⟨rfl,.exit id,hIx _ _ _ _ hi3 (dF _ _ _ zO),vK,jl⟩⟩
   | goto t=>
     obtain⟨bW,hi3⟩:=hp;obtain⟨hr,vK,jl,EC⟩:=fin (some (.goto t)) W3 bW;exact⟨_,_,hr,.inr ⟨rfl,.goto t,hIx _ _ _ _ hi3 (dF _ _ _ zO),vK,jl⟩⟩
   | panic ch=>exact hp.elim
   | outgrown=>exact hp.elim
  case sr=>
   rintro e W2 ⟨⟨v,rfl⟩,(⟨hi,xs,hS,h1,h2,h3,hl,hk⟩ | ⟨pre,hSp,c,h1,hl,hk⟩)⟩
   ·exact⟨none,_,by have:=run_endLoop (P:=P) hl (by rw[oD];simp);rw[oD] at this;exact this,WM hi xs _ hS (hI hi xs W2 _ h1 h2 h3 (dF _ _ _ zO)) ((World.putObj_heap_other zO).trans hk)⟩
   ·exact⟨some c,_,by have:=run_endLoop (P:=P) hl (by rw[oD];simp);rw[oD] at this;exact this,WN c pre _ hSp (hIx c pre W2 _ h1 (dF _ _ _ zO)) ((World.putObj_heap_other zO).trans hk)⟩
def TB(T:Nat->Prop)(lo:Nat)(A:World):Prop:=∀k,T k->lo<=k/\k<A.heap.size
theorem TB.size{T:Nat->Prop}{lo:Nat}{A B:World}(h:TB T lo A)(hs:A.heap.size<=B.heap.size):TB T lo B:=λk hk=>⟨(h k hk).1,Nat.lt_of_lt_of_le (h k hk).2 hs⟩
def apt{α:Type}(P:Program)(g:Nat)(lb:Array Value)(encs:α->Array Value)(X:Nat->Prop)(S Sp Bd:List α->Prop)(w0:World):Prop:=
 ∀(n l:Nat) (J:(Nat->Prop)->List α->World->Prop) (Jx:List α->World->Prop) (W:World),Kept X w0 W->(∀T pre A,J T pre A->Bd pre)->
  (∀T pre A B,J T pre A->TB T W.heap.size A->Kept T A B->J T pre B)->
  (∀T pre A B,J T pre A->TB T W.heap.size A->W.heap.size<=A.heap.size->Kept T A B->J (λk=>T k\/(A.heap.size<=k/\k<B.heap.size)) pre B)->
  (∀m T pre x A,J T pre A->Sp (pre++[x])->TB T W.heap.size A->W.heap.size<=A.heap.size->YieldAt Fence.wide m P l (encs x) A λe B=>
    (e= .returned (.bool true)/\J T (pre++[x]) B/\Kept (λk=>(k<W.heap.size/\X k)\/(W.heap.size<=k/\¬T k)) A B)\/(e= .returned (.bool false)/\Jx (pre++[x]) B))->
  J (λ_=>False) [] W->
  CallsIn Fence.wide n P g (#[.func (.yield l) #[] #[]]++lb) W λe B=>(∃v,e= .returned v)/\((∃T xs,S xs/\J T xs B)\/(∃pre,Sp pre/\Jx pre B))
def amD{α:Type}(lo:Nat)(T X:Nat->Prop)(I:(Nat->Prop)->List α->World->Prop)(Ix:Code->List α->World->Prop)(xs:List α)(W:World):Exit->Act->World->Prop
 | .normal,_,W'=>Kept (λk=>(k<lo/\X k)\/(lo<=k/\¬T k)) W W'/\I T xs W'
 | .ret,_,W'=>Kept (λk=>(k<lo/\X k)\/(lo<=k/\¬T k)) W W'/\Ix .ret xs W'
 | .exit id,_,W'=>Kept (λk=>(k<lo/\X k)\/(lo<=k/\¬T k)) W W'/\Ix (.exit id) xs W'
 | .goto t,_,W'=>Kept (λk=>(k<lo/\X k)\/(lo<=k/\¬T k)) W W'/\Ix (.goto t) xs W'
 | .panic _,_,_=>False
 | .outgrown,_,_=>False
theorem ae6{α:Type}{P:Program}{n:Nat}{g:Operand}{ps:Array Tmp}{assign body:Code}{Q:Exit->Act->World->Prop}{a:Act}{w:World}
 {gf:Nat} {lb:Array Value} (hg:a.eval g= .func (.func gf) #[] lb) (eg:∀args w,(callFunc gf args).run P w= .ok (.enter gf args) w)
 {encs:α->Array Value} {X:Nat->Prop} {S Sp Bd:List α->Prop} {w0:World} (yQ:apt P gf lb encs X S Sp Bd w0) (GR:Kept X w0 w) (hX:¬X w.heap.size/\¬X (w.heap.size+1)) (ZC:∀x,(encs x).size=ps.size)
 (I:(Nat->Prop)->List α->World->Prop) (Ix:Code->List α->World->Prop) (hBd:∀T pre W,I T pre W->Bd pre)
 (hI:∀T pre A B,I T pre A->TB T (w.heap.size+2) A->w.heap.size+2<=A.heap.size->Kept (λk=>T k\/k=w.heap.size\/k=w.heap.size+1) A B->I T pre B)
 (hI0:∀T pre A B,I T pre A->TB T (w.heap.size+2) A->w.heap.size+2<=A.heap.size->Kept T A B->I (λk=>T k\/(A.heap.size<=k/\k<B.heap.size)) pre B)
 (hIx:∀c pre A B,Ix c pre A->Kept (λk=>w.heap.size<=k/\k<w.heap.size+2) A B->Ix c pre B)
 (h0:∀W,Bw w W->w.heap.size+2<=W.heap.size->I (λ_=>False) [] W)
 (a₁:α->World->Act) (wA:α->World->World) (hA:∀x W,Bw W (wA x W))
 (hassign:∀(m l:Nat) (x:α) (W:World) (K:Act->World->Prop),K (a₁ x W) (wA x W)->
   assign.wpIn (Fence.wide.inRound l) m P (Exit.then K (λ_ _ _=>False)) { tmps:=(ps.zip (encs x)).foldl (λt (p,v)=>t.setIfInBounds p v) a.tmps,defers:=[] } W)
 (WL:∀(m l:Nat) (T:Nat->Prop) (pre:List α) (x:α) (W W2:World),I T pre W2->Sp (pre++[x])->TB T (w.heap.size+2) W->w.heap.size+2<=W.heap.size->Kept (λk=>k=w.heap.size+1) (wA x W) W2->
   body.wpIn (Fence.wide.inRound l) m P (amD (w.heap.size+2) T X I Ix (pre++[x]) W2) (a₁ x W) W2)
 (WM:∀(T:Nat->Prop) (xs:List α) (W:World),S xs->I T xs W->W.heap[w.heap.size]?=some (.deferred (some []))->Q .normal { a with defers:={ target:=.collected w.heap.size,args:=#[] }::a.defers } W)
 (WN:∀(c:Code) (pre:List α) (W:World),Sp pre->Ix c pre W->W.heap[w.heap.size]?=some (.deferred (some []))->c.wpIn Fence.wide n P Q { a with defers:={ target:=.collected w.heap.size,args:=#[] }::a.defers } W):
 (Code.rangeFunc g ps assign body).wpIn Fence.wide n P Q a w:=by
 refine wpIn_rangeFunc ?_;intro fn IU;obtain⟨rec,oD⟩:∃rec:LoopState->Option Code->Loop,rec=λst pe=>{ state:=st,pending:=pe,fn,tmps:=a.tmps,params:=ps,assign,body,defers:=w.heap.size }:=⟨_,rfl⟩;obtain⟨W1,hW1⟩:=zF ((w.alloc (.deferred (some []))).alloc (.loop (rec .ready none)))
 have nC:W1.heap.size=w.heap.size+2:=by rw[<-hW1];simp
 have hL1:W1.heap[w.heap.size+1]?=some (.loop (rec .ready none)):=by
  rw[<-hW1];have:=World.alloc_heap_new (w.alloc (.deferred (some []))) (.loop (rec .ready none));rwa [World.size_alloc] at this
 have hK1:W1.heap[w.heap.size]?=some (.deferred (some [])):=by
  rw[<-hW1];exact(Below.heap_alloc _ _ _ zP).trans (World.alloc_heap_new w _)
 have ai:Bw w W1:=by
  rw[<-hW1];exact((Below.refl _ w).alloc (zR _) _).alloc zP _
 refine⟨w.heap.size+1,[{ target:=.collected w.heap.size,args:=#[] }],W1,{ target:=.fn (.func gf) lb,args:=#[.func (.yield (w.heap.size+1)) #[] #[]] },W1,gf,
  #[.func (.yield (w.heap.size+1)) #[] #[]]++lb,W1,?_,?_,λ_ _=>trivial,?_,λh=>by simp[Fence.wide] at h,?_⟩
 ·rw[<-hW1,oD];exact run_enterLoop_outer _ _ _ _ _
 ·simp only[resolve,hg]
  simp[go_sem]
 ·simp[invoke,go_sem,eg]
 ·refine ((callsIn_wide (n:=n)).1 (yQ n (w.heap.size+1)
   (λT pre W=>I T pre W/\TB T (w.heap.size+2) W/\w.heap.size+2<=W.heap.size/\W.heap[w.heap.size+1]?=some (.loop (rec .ready none))/\W.heap[w.heap.size]?=some (.deferred (some [])))
   (λpre W=>∃c,Ix c pre W/\W.heap[w.heap.size+1]?=some (.loop (rec .done (some c)))/\W.heap[w.heap.size]?=some (.deferred (some [])))
   W1 (GR.trans (Kept.of_below ai)) (λT pre A h=>hBd T pre A h.1) ?s1 ?s0 ?sy ⟨h0 W1 ai zO,λ_ h=>h.elim,zO,hL1,hK1⟩) |> λh=>(callsIn_wide (n:=n - 1)).2 h).mono ?sr
  case s1=>
   rintro T pre A B ⟨h1,h2,h3,h4,h5⟩ - hk;refine⟨hI T pre A B h1 h2 h3 (fE hk λk hk=>.inl hk),h2.size hk.size,zT h3 hk.size,?_,?_⟩
   ·exact(hk.block _ (aC h4) (λh=>by have:=(h2 _ h).1;omega)).trans h4
   ·exact(hk.block _ (aC h5) (λh=>by have:=(h2 _ h).1;omega)).trans h5
  case s0=>
   rintro T pre A B ⟨h1,h2,h3,h4,h5⟩ - - hb;have bY:=hb.size;exact⟨hI0 T pre A B h1 h2 h3 hb,λk hk=>hk.elim (λh=>(h2.size bY) k h) (λh=>⟨zO,h.2⟩),zO,(hb.block _ (aC h4) (λh=>by have:=(h2 _ h).1;omega)).trans h4,(hb.block _ (aC h5) (λh=>by have:=(h2 _ h).1;omega)).trans h5⟩
  case sy=>
   rintro m T pre x W ⟨hi1,o8,yx,hl,hk⟩ hlen - -;have aN:=aC hl;have hy:=run_yield (P:=P) (args:=encs x) hl (by rw[oD];exact ZC x);rw[oD] at hy;have AA:=hA x W;have hlA:(wA x W).heap[w.heap.size+1]?=some (.loop (rec .ready none)):=ae hl AA;have hkA:(wA x W).heap[w.heap.size]?=some (.deferred (some [])):=ae hk AA;refine⟨fn,_,assign,body,hy,roundIn_of_wpIn IU (hassign _ _ x W _ ⟨_,run_beginRound hlA (by rw[oD]),?_⟩)⟩;have dm:Kept (λk=>k=w.heap.size+1) (wA x W) ((wA x W).putObj (w.heap.size+1) (.loop { rec .ready none with state:=.busy })):=dF _ _ _ rfl;have lW:((wA x W).putObj (w.heap.size+1) (.loop { rec .ready none with state:=.busy })).heap[w.heap.size+1]?=some (.loop { rec .ready none with state:=.busy }):=World.putObj_heap_same (aC hlA);have jc:((wA x W).putObj (w.heap.size+1) (.loop { rec .ready none with state:=.busy })).heap[w.heap.size]?=some (.deferred (some [])):=(World.putObj_heap_other zO).trans hkA;have oW:W.heap.size<=((wA x W).putObj (w.heap.size+1) (.loop { rec .ready none with state:=.busy })).heap.size:=zT AA.size dm.size;obtain⟨W2,hW2⟩:∃W2,(wA x W).putObj (w.heap.size+1) (.loop { rec .ready none with state:=.busy })=W2:=⟨_,rfl⟩;rw[hW2] at dm lW jc oW ⊢;have hi2:I T pre W2:=hI T pre (wA x W) W2 (hI T pre W (wA x W) hi1 o8 yx (Kept.of_below AA)) (o8.size AA.size) (zT yx AA.size) (fE dm λk e=>.inr (.inr e));refine wpIn_mono (WL _ _ T pre x W W2 hi2 hlen o8 yx dm) ?_
   have fin:∀(jump:Option Code) (W3:World),Kept (λk=>(k<w.heap.size+2/\X k)\/(w.heap.size+2<=k/\¬T k)) W2 W3->
    (Instr.endRound (w.heap.size+1) jump).run P W3= .ok (.bool jump.isNone) (W3.putObj (w.heap.size+1) (.loop (rec (if jump.isNone then .ready else .done) jump)))/\
    (W3.putObj (w.heap.size+1) (.loop (rec (if jump.isNone then .ready else .done) jump))).heap[w.heap.size+1]?=some (.loop (rec (if jump.isNone then .ready else .done) jump))/\
    (W3.putObj (w.heap.size+1) (.loop (rec (if jump.isNone then .ready else .done) jump))).heap[w.heap.size]?=some (.deferred (some []))/\w.heap.size+1<W3.heap.size:=λjump W3 bW=>by
    have QN:W3.heap[w.heap.size+1]?=some (.loop { rec .ready none with state:=.busy }):=(bW.block _ (aC lW) (by rintro (⟨_,h⟩ | ⟨h,_⟩);exact hX.2 h;omega)).trans lW;have sZ:W3.heap[w.heap.size]?=some (.deferred (some [])):=(bW.block _ (aC jc) (by rintro (⟨_,h⟩ | ⟨h,_⟩);exact hX.1 h;omega)).trans jc;have:=run_endRound (P:=P) jump QN;rw[oD] at this ⊢;exact⟨this,World.putObj_heap_same (aC QN),(World.putObj_heap_other zO).trans sZ,aC QN⟩
   rintro e a3 W3 hp
   cases e with
   | normal=>
     obtain⟨bW,hi3⟩:=hp;obtain⟨hr,vK,jl,EC⟩:=fin none W3 bW;refine⟨_,_,hr,.inl ⟨rfl,⟨hI T _ W3 _ hi3 (o8.size (zT oW bW.size)) (zT yx (zT oW bW.size)) (dF _ _ _ (.inr (.inr rfl))),o8.size ?_,zT yx ?_,vK,jl⟩,?_⟩⟩
     ·exact zT (zT oW bW.size) (grownBy_putObj' W3 _ _).size
     ·exact zT (zT oW bW.size) (grownBy_putObj' W3 _ _).size
     ·have dW:Kept (λk=>((k<w.heap.size+2/\X k)\/(w.heap.size+2<=k/\¬T k))\/k=w.heap.size+1) W (W3.putObj (w.heap.size+1) (.loop (rec (if (none:Option Code).isNone then .ready else .done) none))):=
          (((Kept.of_below AA).trans (fE dm λk e=>.inr e)).trans (fE bW λk e=>.inl e)).trans (dF _ _ _ (.inr rfl))
      refine⟨dW.os,dW.tape,dW.output,dW.size,λk fM hm=>?_⟩;by_cases e:k=w.heap.size+1
      ·rw[e,hl];exact vK
      ·exact dW.block k fM (by
        rintro (h | h)
        ·exact hm (by rw[nC];exact h)
        ·exact e h)
   | ret=>
     obtain⟨bW,hi3⟩:=hp;obtain⟨hr,vK,jl,EC⟩:=fin (some .ret) W3 bW;exact⟨_,_,hr,.inr ⟨rfl,.ret,hIx _ _ _ _ hi3 (dF _ _ _ zO),vK,jl⟩⟩
   | exit id=>
     obtain⟨bW,hi3⟩:=hp;obtain⟨hr,vK,jl,EC⟩:=fin (some (.exit id)) W3 bW;exact⟨_,_,hr,.inr ⟨rfl,.exit id,hIx _ _ _ _ hi3 (dF _ _ _ zO),vK,jl⟩⟩
   | goto t=>
     obtain⟨bW,hi3⟩:=hp;obtain⟨hr,vK,jl,EC⟩:=fin (some (.goto t)) W3 bW;exact⟨_,_,hr,.inr ⟨rfl,.goto t,hIx _ _ _ _ hi3 (dF _ _ _ zO),vK,jl⟩⟩
   | panic ch=>exact hp.elim
   | outgrown=>exact hp.elim
  case sr=>
   rintro e W2 ⟨⟨v,rfl⟩,(⟨T,xs,hS,h1,h2,h3,hl,hk⟩ | ⟨pre,hSp,c,h1,hl,hk⟩)⟩
   ·exact⟨none,_,by have:=run_endLoop (P:=P) hl (by rw[oD];simp);rw[oD] at this;exact this,WM T xs _ hS (hI T xs W2 _ h1 h2 h3 (dF _ _ _ (.inr (.inr rfl)))) ((World.putObj_heap_other zO).trans hk)⟩
   ·exact⟨some c,_,by have:=run_endLoop (P:=P) hl (by rw[oD];simp);rw[oD] at this;exact this,WN c pre _ hSp (hIx c pre W2 _ h1 (dF _ _ _ zO)) ((World.putObj_heap_other zO).trans hk)⟩
def yF{α:Type}(P:Program)(g:Nat)(lb:Array Value)(encs:α->Array Value)(X:Nat->Prop)(S Sp:List α->Prop)(w0:World):Prop:=
 ∀(n l:Nat) (J:List α->World->Prop) (Jx:List α->World->Prop) (W:World),Kept X w0 W->
  (∀pre A B,J pre A->W.heap.size<=A.heap.size->Bw A B->J pre B)->
  (∀m pre x A,J pre A->Sp (pre++[x])->W.heap.size<=A.heap.size->YieldAt Fence.wide m P l (encs x) A λe B=>
    (e= .returned (.bool true)/\J (pre++[x]) B/\Kept (λk=>X k\/W.heap.size<=k) A B)\/(e= .returned (.bool false)/\Jx (pre++[x]) B))->
  J [] W->
  CallsIn Fence.wide n P g (#[.func (.yield l) #[] #[]]++lb) W λe B=>(∃v,e= .returned v)/\((∃xs,S xs/\J xs B)\/(∃pre,Sp pre/\Jx pre B))
def anl{α:Type}(lo:Nat)(X:Nat->Prop)(I:List α->World->Prop)(Ix:Code->List α->World->Prop)(xs:List α)(W:World):Exit->Act->World->Prop
 | .normal,_,W'=>Kept (λk=>X k\/lo<=k) W W'/\I xs W'
 | .ret,_,W'=>Kept (λk=>X k\/lo<=k) W W'/\Ix .ret xs W'
 | .exit id,_,W'=>Kept (λk=>X k\/lo<=k) W W'/\Ix (.exit id) xs W'
 | .goto t,_,W'=>Kept (λk=>X k\/lo<=k) W W'/\Ix (.goto t) xs W'
 | .panic _,_,_=>False
 | .outgrown,_,_=>False
theorem Lp{α:Type}{P:Program}{n:Nat}{g:Operand}{ps:Array Tmp}{assign body:Code}{Q:Exit->Act->World->Prop}{a:Act}{w:World}
 {gf:Nat} {lb:Array Value} (hg:a.eval g= .func (.func gf) #[] lb) (eg:∀args w,(callFunc gf args).run P w= .ok (.enter gf args) w)
 {encs:α->Array Value} {X:Nat->Prop} {S Sp:List α->Prop} {w0:World} (yQ:yF P gf lb encs X S Sp w0) (GR:Kept X w0 w) (hX:∀k,X k->k<w.heap.size) (ZC:∀x,(encs x).size=ps.size)
 (I:List α->World->Prop) (Ix:Code->List α->World->Prop)
 (hI:∀pre A B,I pre A->w.heap.size+2<=A.heap.size->Bw A B->I pre B)
 (hL:∀pre A B,I pre A->w.heap.size+2<=A.heap.size->Kept (λk=>k=w.heap.size\/k=w.heap.size+1) A B->I pre B)
 (hIx:∀c pre A B,Ix c pre A->Kept (λk=>w.heap.size<=k/\k<w.heap.size+2) A B->Ix c pre B)
 (h0:∀W,Bw w W->w.heap.size+2<=W.heap.size->I [] W)
 (a₁:α->World->Act) (wA:α->World->World) (hA:∀x W,Bw W (wA x W))
 (hassign:∀(m l:Nat) (x:α) (W:World) (K:Act->World->Prop),K (a₁ x W) (wA x W)->
   assign.wpIn (Fence.wide.inRound l) m P (Exit.then K (λ_ _ _=>False)) { tmps:=(ps.zip (encs x)).foldl (λt (p,v)=>t.setIfInBounds p v) a.tmps,defers:=[] } W)
 (WL:∀(m l:Nat) (pre:List α) (x:α) (W W2:World),I pre W2->Sp (pre++[x])->w.heap.size+2<=W.heap.size->Kept (λk=>k=w.heap.size+1) (wA x W) W2->
   body.wpIn (Fence.wide.inRound l) m P (anl (w.heap.size+2) X I Ix (pre++[x]) W2) (a₁ x W) W2)
 (WM:∀(xs:List α) (W:World),S xs->I xs W->W.heap[w.heap.size]?=some (.deferred (some []))->Q .normal { a with defers:={ target:=.collected w.heap.size,args:=#[] }::a.defers } W)
 (WN:∀(c:Code) (pre:List α) (W:World),Sp pre->Ix c pre W->W.heap[w.heap.size]?=some (.deferred (some []))->c.wpIn Fence.wide n P Q { a with defers:={ target:=.collected w.heap.size,args:=#[] }::a.defers } W):
 (Code.rangeFunc g ps assign body).wpIn Fence.wide n P Q a w:=by
 refine wpIn_rangeFunc ?_;intro fn IU;obtain⟨rec,oD⟩:∃rec:LoopState->Option Code->Loop,rec=λst pe=>{ state:=st,pending:=pe,fn,tmps:=a.tmps,params:=ps,assign,body,defers:=w.heap.size }:=⟨_,rfl⟩;obtain⟨W1,hW1⟩:=zF ((w.alloc (.deferred (some []))).alloc (.loop (rec .ready none)))
 have nC:W1.heap.size=w.heap.size+2:=by rw[<-hW1];simp
 have hL1:W1.heap[w.heap.size+1]?=some (.loop (rec .ready none)):=by
  rw[<-hW1];have:=World.alloc_heap_new (w.alloc (.deferred (some []))) (.loop (rec .ready none));rwa [World.size_alloc] at this
 have hK1:W1.heap[w.heap.size]?=some (.deferred (some [])):=by
  rw[<-hW1];exact(Below.heap_alloc _ _ _ zP).trans (World.alloc_heap_new w _)
 have ai:Bw w W1:=by
  rw[<-hW1];exact((Below.refl _ w).alloc (zR _) _).alloc zP _
 refine⟨w.heap.size+1,[{ target:=.collected w.heap.size,args:=#[] }],W1,{ target:=.fn (.func gf) lb,args:=#[.func (.yield (w.heap.size+1)) #[] #[]] },W1,gf,
  #[.func (.yield (w.heap.size+1)) #[] #[]]++lb,W1,?_,?_,λ_ _=>trivial,?_,λh=>by simp[Fence.wide] at h,?_⟩
 ·rw[<-hW1,oD];exact run_enterLoop_outer _ _ _ _ _
 ·simp only[resolve,hg]
  simp[go_sem]
 ·simp[invoke,go_sem,eg]
 ·refine ((callsIn_wide (n:=n)).1 (yQ n (w.heap.size+1)
   (λpre W=>I pre W/\w.heap.size+2<=W.heap.size/\W.heap[w.heap.size+1]?=some (.loop (rec .ready none))/\W.heap[w.heap.size]?=some (.deferred (some [])))
   (λpre W=>∃c,Ix c pre W/\W.heap[w.heap.size+1]?=some (.loop (rec .done (some c)))/\W.heap[w.heap.size]?=some (.deferred (some [])))
   W1 (GR.trans (Kept.of_below ai)) ?s1 ?sy ⟨h0 W1 ai zO,zO,hL1,hK1⟩) |> λh=>(callsIn_wide (n:=n - 1)).2 h).mono ?sr
  case s1=>
   rintro pre A B ⟨h1,h2,h4,h5⟩ - hb;exact⟨hI pre A B h1 h2 hb,zT h2 hb.size,ae h4 hb,ae h5 hb⟩
  case sy=>
   rintro m pre x W ⟨hi1,yx,hl,hk⟩ hlen -;have aN:=aC hl;have hy:=run_yield (P:=P) (args:=encs x) hl (by rw[oD];exact ZC x);rw[oD] at hy;have AA:=hA x W;have hlA:(wA x W).heap[w.heap.size+1]?=some (.loop (rec .ready none)):=ae hl AA;have hkA:(wA x W).heap[w.heap.size]?=some (.deferred (some [])):=ae hk AA;refine⟨fn,_,assign,body,hy,roundIn_of_wpIn IU (hassign _ _ x W _ ⟨_,run_beginRound hlA (by rw[oD]),?_⟩)⟩;have dm:Kept (λk=>k=w.heap.size+1) (wA x W) ((wA x W).putObj (w.heap.size+1) (.loop { rec .ready none with state:=.busy })):=dF _ _ _ rfl;have lW:((wA x W).putObj (w.heap.size+1) (.loop { rec .ready none with state:=.busy })).heap[w.heap.size+1]?=some (.loop { rec .ready none with state:=.busy }):=World.putObj_heap_same (aC hlA);have jc:((wA x W).putObj (w.heap.size+1) (.loop { rec .ready none with state:=.busy })).heap[w.heap.size]?=some (.deferred (some [])):=(World.putObj_heap_other zO).trans hkA;have oW:W.heap.size<=((wA x W).putObj (w.heap.size+1) (.loop { rec .ready none with state:=.busy })).heap.size:=zT AA.size dm.size;obtain⟨W2,hW2⟩:∃W2,(wA x W).putObj (w.heap.size+1) (.loop { rec .ready none with state:=.busy })=W2:=⟨_,rfl⟩;rw[hW2] at dm lW jc oW ⊢;have hi2:I pre W2:=hL pre (wA x W) W2 (hI pre W (wA x W) hi1 yx AA) (zT yx AA.size) (fE dm λk e=>.inr e);refine wpIn_mono (WL _ _ pre x W W2 hi2 hlen yx dm) ?_
   have fin:∀(jump:Option Code) (W3:World),Kept (λk=>X k\/w.heap.size+2<=k) W2 W3->
    (Instr.endRound (w.heap.size+1) jump).run P W3= .ok (.bool jump.isNone) (W3.putObj (w.heap.size+1) (.loop (rec (if jump.isNone then .ready else .done) jump)))/\
    (W3.putObj (w.heap.size+1) (.loop (rec (if jump.isNone then .ready else .done) jump))).heap[w.heap.size+1]?=some (.loop (rec (if jump.isNone then .ready else .done) jump))/\
    (W3.putObj (w.heap.size+1) (.loop (rec (if jump.isNone then .ready else .done) jump))).heap[w.heap.size]?=some (.deferred (some []))/\w.heap.size+1<W3.heap.size:=λjump W3 bW=>by
    have QN:W3.heap[w.heap.size+1]?=some (.loop { rec .ready none with state:=.busy }):=(bW.block _ (aC lW) (by rintro (h | h);have:=hX _ h;omega;omega)).trans lW;have sZ:W3.heap[w.heap.size]?=some (.deferred (some [])):=(bW.block _ (aC jc) (by rintro (h | h);have:=hX _ h;omega;omega)).trans jc;have:=run_endRound (P:=P) jump QN;rw[oD] at this ⊢;exact⟨this,World.putObj_heap_same (aC QN),(World.putObj_heap_other zO).trans sZ,aC QN⟩
   rintro e a3 W3 hp
   cases e with
   | normal=>
     obtain⟨bW,hi3⟩:=hp;obtain⟨hr,vK,jl,EC⟩:=fin none W3 bW;refine⟨_,_,hr,.inl ⟨rfl,⟨hL _ W3 _ hi3 (zT yx (zT oW bW.size)) (dF _ _ _ (.inr rfl)),?_,vK,jl⟩,?_⟩⟩
     ·exact zT (zT yx (zT oW bW.size)) (grownBy_putObj' W3 _ _).size
     ·have dW:Kept (λk=>(X k\/w.heap.size+2<=k)\/k=w.heap.size+1) W (W3.putObj (w.heap.size+1) (.loop (rec (if (none:Option Code).isNone then .ready else .done) none))):=
          (((Kept.of_below AA).trans (fE dm λk e=>.inr e)).trans (fE bW λk e=>.inl e)).trans (dF _ _ _ (.inr rfl))
      refine⟨dW.os,dW.tape,dW.output,dW.size,λk fM hm=>?_⟩;by_cases e:k=w.heap.size+1
      ·rw[e,hl];exact vK
      ·exact dW.block k fM (by
        rintro (h | h)
        ·exact hm (by rw[nC];exact h)
        ·exact e h)
   | ret=>
     obtain⟨bW,hi3⟩:=hp;obtain⟨hr,vK,jl,EC⟩:=fin (some .ret) W3 bW;exact⟨_,_,hr,.inr ⟨rfl,.ret,hIx _ _ _ _ hi3 (dF _ _ _ zO),vK,jl⟩⟩
   | exit id=>
     obtain⟨bW,hi3⟩:=hp;obtain⟨hr,vK,jl,EC⟩:=fin (some (.exit id)) W3 bW;exact⟨_,_,hr,.inr ⟨rfl,.exit id,hIx _ _ _ _ hi3 (dF _ _ _ zO),vK,jl⟩⟩
   | goto t=>
     obtain⟨bW,hi3⟩:=hp;obtain⟨hr,vK,jl,EC⟩:=fin (some (.goto t)) W3 bW;exact⟨_,_,hr,.inr ⟨rfl,.goto t,hIx _ _ _ _ hi3 (dF _ _ _ zO),vK,jl⟩⟩
   | panic ch=>exact hp.elim
   | outgrown=>exact hp.elim
  case sr=>
   rintro e W2 ⟨⟨v,rfl⟩,(⟨xs,hS,h1,h2,hl,hk⟩ | ⟨pre,hSp,c,h1,hl,hk⟩)⟩
   ·exact⟨none,_,by have:=run_endLoop (P:=P) hl (by rw[oD];simp);rw[oD] at this;exact this,WM xs _ hS (hL xs W2 _ h1 h2 (dF _ _ _ (.inr rfl))) ((World.putObj_heap_other zO).trans hk)⟩
   ·exact⟨some c,_,by have:=run_endLoop (P:=P) hl (by rw[oD];simp);rw[oD] at this;exact this,WN c pre _ hSp (hIx c pre W2 _ h1 (dF _ _ _ zO)) ((World.putObj_heap_other zO).trans hk)⟩
end Go.Proofs.YtgmnnegfndpakaaGreatDoor
