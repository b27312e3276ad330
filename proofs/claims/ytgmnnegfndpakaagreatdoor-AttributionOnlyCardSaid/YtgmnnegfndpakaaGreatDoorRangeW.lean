import Derived.Test.YtgmnnegfndpakaaGreatDoorH08
set_option maxHeartbeats 20000000
set_option maxRecDepth 100000
namespace Go.Proofs.YtgmnnegfndpakaaGreatDoor
open Go.RowKit
variable{α:Type}{P:Program}{lb:Array Value}{X:Nat->Prop}{w0:World}{encs:α->Array Value}{S Sp:List α->Prop}
def aOY(P:Program)(g:Nat)(lb:Array Value)(encs:α->Array Value)(X:Nat->Prop)(Rd:(Nat->Prop)->α->World->Prop)(S Sp Bd:List α->Prop)(w0:World):Prop:=
 ∀(n l:Nat) (J:(Nat->Prop)->List α->World->Prop) (Jx:List α->World->Prop) (W:World),Kept X w0 W->(∀T pre A,J T pre A->Bd pre)->
  (∀T pre A B,J T pre A->TB T W A->Kept T A B->J T pre B)->
  (∀T pre A B,J T pre A->TB T W A->W.heap.size<=A.heap.size->Kept T A B->J (λk=>T k\/(A.heap.size<=k/\k<B.heap.size)) pre B)->
  (∀m T pre x A,J T pre A->Sp (pre++[x])->Rd T x A->TB T W A->W.heap.size<=A.heap.size->YieldAt Fence.wide m P l (encs x) A λe B=>
    (e= .returned true/\J T (pre++[x]) B/\Kept (λk=>(k<W/\X k)\/(W<=k/\¬T k)) A B)\/(e= .returned false/\Jx (pre++[x]) B))->
  J (λ_=>False) [] W->
  CallsIn Fence.wide n P g (#[.func (.yield l) #[] #[]]++lb) W λe B=>(∃v,e= .returned v)/\((∃T xs,S xs/\J T xs B)\/(∃pre,Sp pre/\Jx pre B))
theorem apt.toW{g:Nat}{Bd:List α->Prop}(h:apt P g lb encs X S Sp Bd w0):aOY P g lb encs X (λ_ _ _=>True) S Sp Bd w0:=
 λn l J Jx W h1 h2 h3 h4 h5 h6=>h n l J Jx W h1 h2 h3 h4 (λm T pre x A a b c d=>h5 m T pre x A a b trivial c d) h6
def aKj(lo:Nat)(T X X2:Nat->Prop)(I:(Nat->Prop)->List α->World->Prop)(Ix:Code->List α->World->Prop)(xs:List α)(W:World):Exit->Act->World->Prop
 | .normal,_,W'=>Kept (λk=>(k<lo/\X k)\/(lo<=k/\¬T k)) W W'/\I T xs W'
 | .ret,_,W'=>Kept (λk=>(k<lo/\X2 k)\/(lo<=k/\¬T k)) W W'/\Ix .ret xs W'
 | .exit id,_,W'=>Kept (λk=>(k<lo/\X2 k)\/(lo<=k/\¬T k)) W W'/\Ix (.exit id) xs W'
 | .goto t,_,W'=>Kept (λk=>(k<lo/\X2 k)\/(lo<=k/\¬T k)) W W'/\Ix (.goto t) xs W'
 | .panic _,_,_=>False
 | .outgrown,_,_=>False
theorem aOX{n:Nat}{g:Operand}{ps:Array Tmp}{assign body:Code}{Q:Exit->Act->World->Prop}{a:Act}{w:World}
 {gf:Nat}  (hg:a.eval g= .func (.func gf) #[] lb) (eg:∀args w,(callFunc gf args).run P w= .ok (.enter gf args) w)
  {X2:Nat->Prop} {Rd:(Nat->Prop)->α->World->Prop} {Bd:List α->Prop}  (yQ:aOY P gf lb encs X Rd S Sp Bd w0) (GR:Kept X w0 w) (Z4:∀T x A B,Rd T x A->(∀k,T k->B.heap[k]?=A.heap[k]?)->A.heap.size<=B.heap.size->Rd T x B) (hX2:¬X2 w.heap.size/\¬X2 (w.heap.size+1)) (hX:¬X w.heap.size/\¬X (w.heap.size+1)) (ZC:∀x,(encs x).size=ps.size)
 (I:(Nat->Prop)->List α->World->Prop) (Ix:Code->List α->World->Prop) (hBd:∀T pre W,I T pre W->Bd pre)
 (hI:∀T pre A B,I T pre A->TB T (w.heap.size+2) A->w.heap.size+2<=A.heap.size->Kept (λk=>T k\/k=w.heap.size\/k=w.heap.size+1) A B->I T pre B)
 (hI0:∀T pre A B,I T pre A->TB T (w.heap.size+2) A->w.heap.size+2<=A.heap.size->Kept T A B->I (λk=>T k\/(A.heap.size<=k/\k<B.heap.size)) pre B)
 (hIx:∀c pre A B,Ix c pre A->Kept (λk=>w<=k/\k<w+2) A B->Ix c pre B)
 (h0:∀W,Bw w W->w.heap.size+2<=W.heap.size->I (λ_=>False) [] W)
 (a₁:α->World->Act) (wA:α->World->World) (hA:∀x W,Bw W (wA x W))
 (hassign:∀(m l:Nat) (x:α) (W:World) (K:Act->World->Prop),K (a₁ x W) (wA x W)->
   assign.wpIn (Fence.wide.inRound l) m P (Exit.then K (λ_ _ _=>False)) { tmps:=(ps.zip (encs x)).foldl (λt (p,v)=>t.setIfInBounds p v) a.tmps,defers:=[] } W)
 (WL:∀(m l:Nat) (T:Nat->Prop) (pre:List α) (x:α) (W W2:World),I T pre W2->Sp (pre++[x])->Rd T x W2->TB T (w.heap.size+2) W->w.heap.size+2<=W->Kept (λk=>k=w+1) (wA x W) W2->
   body.wpIn (Fence.wide.inRound l) m P (aKj (w.heap.size+2) T X X2 I Ix (pre++[x]) W2) (a₁ x W) W2)
 (WM:∀(T:Nat->Prop) (xs:List α) (W:World),S xs->I T xs W->W.heap[w.heap.size]?=some (.deferred (some []))->Q .normal { a with defers:={ target:=.collected w,args:=#[] }::a.defers } W)
 (WN:∀(c:Code) (pre:List α) (W:World),Sp pre->Ix c pre W->W.heap[w.heap.size]?=some (.deferred (some []))->c.wpIn Fence.wide n P Q { a with defers:={ target:=.collected w,args:=#[] }::a.defers } W):
 (Code.rangeFunc g ps assign body).wpIn Fence.wide n P Q a w:=by
 refine wpIn_rangeFunc ?_;intro fn IU;obtain⟨rec,oD⟩:∃rec:LoopState->Option Code->Loop,rec=λst pe=>{ state:=st,pending:=pe,fn,tmps:=a.tmps,params:=ps,assign,body,defers:=w.heap.size }:=⟨_,rfl⟩;obtain⟨W1,SQ⟩:=zF ((w.alloc (.deferred (some []))).alloc (.loop (rec .ready none)));have nC:W1=w.heap.size+2:=(by rw[<-SQ];simp)
 have hL1:W1.heap[w.heap.size+1]?=some (.loop (rec .ready none)):=by
  rw[<-SQ];have:=World.alloc_heap_new (w.alloc (.deferred (some []))) (.loop (rec .ready none));rwa [World.size_alloc] at this
 have hK1:W1.heap[w.heap.size]?=some (.deferred (some [])):=by
  rw[<-SQ];exact(Below.heap_alloc _ _ _ zP).trans (World.alloc_heap_new w _)
 have ai:Bw w W1:=by
  rw[<-SQ];exact((j9 _ w).alloc (zR _) _).alloc zP _
 refine⟨w.heap.size+1,[{ target:=.collected w,args:=#[] }],W1,{ target:=.fn (.func gf) lb,args:=#[.func (.yield (w.heap.size+1)) #[] #[]] },W1,gf,
  #[.func (.yield (w.heap.size+1)) #[] #[]]++lb,W1,?_,?_,λ_ _=>trivial,?_,λh=>by simp[Fence.wide] at h,?_⟩
 ·rw[<-SQ,oD];exact run_enterLoop_outer _ _ _ _ _
 ·simp only[resolve,hg];simp[go_sem]
 ·simp[invoke,go_sem,eg]
 refine ((t6 (n:=n)).1 (yQ n (w.heap.size+1)
  (λT pre W=>I T pre W/\TB T (w.heap.size+2) W/\w.heap.size+2<=W/\W.heap[w.heap.size+1]?=some (.loop (rec .ready none))/\W.heap[w.heap.size]?=some (.deferred (some [])))
  (λpre W=>∃c,Ix c pre W/\W.heap[w.heap.size+1]?=some (.loop (rec .done (some c)))/\W.heap[w.heap.size]?=some (.deferred (some [])))
  W1 (GR.trans (Qh ai)) (λT pre A h=>hBd T pre A h.1) ?s1 ?s0 ?sy ⟨h0 W1 ai zO,λ_ h=>h.elim,zO,hL1,hK1⟩) |> λh=>(t6 (n:=n - 1)).2 h).mono ?sr
 case s1=>
  rintro T pre A B ⟨h1,h2,h3,h4,h5⟩ - hk;refine⟨hI T pre A B h1 h2 h3 (fE hk λk hk=>.inl hk),h2.size hk.size,zT h3 hk.size,?_,?_⟩
  ·exact(hk.block _ (aC h4) (λh=>by have:=(h2 _ h).1;omega)).trans h4
  exact(hk.block _ (aC h5) (λh=>by have:=(h2 _ h).1;omega)).trans h5
 case s0=>
  rintro T pre A B ⟨h1,h2,h3,h4,h5⟩ - - hb;have bY:=hb.size;exact⟨hI0 T pre A B h1 h2 h3 hb,λk hk=>hk.elim (λh=>(h2.size bY) k h) (λh=>⟨zO,h.2⟩),zO,(hb.block _ (aC h4) (λh=>by have:=(h2 _ h).1;omega)).trans h4,(hb.block _ (aC h5) (λh=>by have:=(h2 _ h).1;omega)).trans h5⟩
 case sy=>
  rintro m T pre x W ⟨hi1,o8,yx,hl,hk⟩ hlen hrd - -;have aN:=aC hl;have hy:=run_yield (P:=P) (args:=encs x) hl (by rw[oD];exact ZC x);rw[oD] at hy;have AA:=hA x W;have hlA:(wA x W).heap[w.heap.size+1]?=some (.loop (rec .ready none)):=ae hl AA;have hkA:(wA x W).heap[w.heap.size]?=some (.deferred (some [])):=ae hk AA;refine⟨fn,_,assign,body,hy,roundIn_of_wpIn IU (hassign _ _ x W _ ⟨_,run_beginRound hlA (by rw[oD]),?_⟩)⟩;have dm:Kept (λk=>k=w+1) (wA x W) ((wA x W).putObj (w.heap.size+1) (.loop { rec .ready none with state:=.busy })):=dF _ _ _ rfl;have lW:((wA x W).putObj (w.heap.size+1) (.loop { rec .ready none with state:=.busy })).heap[w.heap.size+1]?=some (.loop { rec .ready none with state:=.busy }):=World.putObj_heap_same (aC hlA);have jc:((wA x W).putObj (w.heap.size+1) (.loop { rec .ready none with state:=.busy })).heap[w.heap.size]?=some (.deferred (some [])):=(World.putObj_heap_other zO).trans hkA;have oW:W.heap.size<=((wA x W).putObj (w.heap.size+1) (.loop { rec .ready none with state:=.busy })).heap.size:=zT AA.size dm.size;obtain⟨W2,hW2⟩:∃W2,(wA x W).putObj (w.heap.size+1) (.loop { rec .ready none with state:=.busy })=W2:=⟨_,rfl⟩;rw[hW2] at dm lW jc oW ⊢;have hi2:I T pre W2:=hI T pre (wA x W) W2 (hI T pre W (wA x W) hi1 o8 yx (Qh AA)) (o8.size AA.size) (zT yx AA.size) (fE dm λk e=>.inr (.inr e));refine wpIn_mono (WL _ _ T pre x W W2 hi2 hlen (Z4 T x W W2 hrd (λk fM=>(dm.block k (d4 (o8 k fM).2 AA.size) (by have:=(o8 k fM).1;omega)).trans (AA.block k (o8 k fM).2)) oW) o8 yx dm) ?_
  have fin:∀(jump:Option Code) (W3:World),Kept (λk=>(k<w+2/\X k)\/(w+2<=k/\¬T k)) W2 W3->
   (Instr.endRound (w.heap.size+1) jump).run P W3= .ok jump.isNone (W3.putObj (w.heap.size+1) (.loop (rec (if jump.isNone then .ready else .done) jump)))/\
   (W3.putObj (w.heap.size+1) (.loop (rec (if jump.isNone then .ready else .done) jump))).heap[w.heap.size+1]?=some (.loop (rec (if jump.isNone then .ready else .done) jump))/\
   (W3.putObj (w.heap.size+1) (.loop (rec (if jump.isNone then .ready else .done) jump))).heap[w.heap.size]?=some (.deferred (some []))/\w.heap.size+1<W3:=λjump W3 bW=>by
   have QN:W3.heap[w.heap.size+1]?=some (.loop { rec .ready none with state:=.busy }):=(bW.block _ (aC lW) (by rintro (⟨_,h⟩ | ⟨h,_⟩);exact hX.2 h;omega)).trans lW;have sZ:W3.heap[w.heap.size]?=some (.deferred (some [])):=(bW.block _ (aC jc) (by rintro (⟨_,h⟩ | ⟨h,_⟩);exact hX.1 h;omega)).trans jc;have:=run_endRound (P:=P) jump QN;rw[oD] at this ⊢;exact⟨this,World.putObj_heap_same (aC QN),(World.putObj_heap_other zO).trans sZ,aC QN⟩
  have fin2:∀(jump:Option Code) (W3:World),Kept (λk=>(k<w+2/\X2 k)\/(w+2<=k/\¬T k)) W2 W3->
   (Instr.endRound (w.heap.size+1) jump).run P W3= .ok jump.isNone (W3.putObj (w.heap.size+1) (.loop (rec (if jump.isNone then .ready else .done) jump)))/\
   (W3.putObj (w.heap.size+1) (.loop (rec (if jump.isNone then .ready else .done) jump))).heap[w.heap.size+1]?=some (.loop (rec (if jump.isNone then .ready else .done) jump))/\
   (W3.putObj (w.heap.size+1) (.loop (rec (if jump.isNone then .ready else .done) jump))).heap[w.heap.size]?=some (.deferred (some []))/\w.heap.size+1<W3:=λjump W3 bW=>by
   have QN:W3.heap[w.heap.size+1]?=some (.loop { rec .ready none with state:=.busy }):=(bW.block _ (aC lW) (by rintro (⟨_,h⟩ | ⟨h,_⟩);exact hX2.2 h;omega)).trans lW;have sZ:W3.heap[w.heap.size]?=some (.deferred (some [])):=(bW.block _ (aC jc) (by rintro (⟨_,h⟩ | ⟨h,_⟩);exact hX2.1 h;omega)).trans jc;have:=run_endRound (P:=P) jump QN;rw[oD] at this ⊢;exact⟨this,World.putObj_heap_same (aC QN),(World.putObj_heap_other zO).trans sZ,aC QN⟩
  rintro e a3 W3 hp
  cases e with
  | normal=>
    obtain⟨bW,jI⟩:=hp;obtain⟨hr,vK,jl,EC⟩:=fin none W3 bW;refine⟨_,_,hr,.inl ⟨rfl,⟨hI T _ W3 _ jI (o8.size (zT oW bW.size)) (zT yx (zT oW bW.size)) (dF _ _ _ (.inr (.inr rfl))),o8.size ?_,zT yx ?_,vK,jl⟩,?_⟩⟩
    ·exact zT (zT oW bW.size) (grownBy_putObj' W3 _ _).size
    ·exact zT (zT oW bW.size) (grownBy_putObj' W3 _ _).size
    have dW:Kept (λk=>((k<w+2/\X k)\/(w+2<=k/\¬T k))\/k=w+1) W (W3.putObj (w.heap.size+1) (.loop (rec (if (none:Option Code).isNone then .ready else .done) none))):=
        (((Qh AA).trans (fE dm λk e=>.inr e)).trans (fE bW λk e=>.inl e)).trans (dF _ _ _ (.inr rfl))
    refine⟨dW.os,dW.tape,dW.output,dW.size,λk fM hm=>?_⟩;by_cases e:k=w+1
    ·rw[e,hl];exact vK
    exact dW.block k fM (by
     rintro (h | h)
     ·exact hm (by rw[nC];exact h)
     exact e h)
  | ret=>
    obtain⟨bW,jI⟩:=hp;obtain⟨hr,vK,jl,EC⟩:=fin2 (some .ret) W3 bW;exact⟨_,_,hr,.inr ⟨rfl,.ret,hIx _ _ _ _ jI (dF _ _ _ zO),vK,jl⟩⟩
  | exit id=>
    obtain⟨bW,jI⟩:=hp;obtain⟨hr,vK,jl,EC⟩:=fin2 (some (.exit id)) W3 bW;exact⟨_,_,hr,.inr ⟨rfl,.exit id,hIx _ _ _ _ jI (dF _ _ _ zO),vK,jl⟩⟩
  | goto t=>
    obtain⟨bW,jI⟩:=hp;obtain⟨hr,vK,jl,EC⟩:=fin2 (some (.goto t)) W3 bW;exact⟨_,_,hr,.inr ⟨rfl,.goto t,hIx _ _ _ _ jI (dF _ _ _ zO),vK,jl⟩⟩
  | panic ch=>exact hp.elim
  | outgrown=>exact hp.elim
 case sr=>
  rintro e W2 ⟨⟨v,rfl⟩,(⟨T,xs,hS,h1,h2,h3,hl,hk⟩ | ⟨pre,hSp,c,h1,hl,hk⟩)⟩
  ·exact⟨none,_,by have:=run_endLoop (P:=P) hl (by rw[oD];simp);rw[oD] at this;exact this,WM T xs _ hS (hI T xs W2 _ h1 h2 h3 (dF _ _ _ (.inr (.inr rfl)))) ((World.putObj_heap_other zO).trans hk)⟩
  exact⟨some c,_,by have:=run_endLoop (P:=P) hl (by rw[oD];simp);rw[oD] at this;exact this,WN c pre _ hSp (hIx c pre W2 _ h1 (dF _ _ _ zO)) ((World.putObj_heap_other zO).trans hk)⟩
