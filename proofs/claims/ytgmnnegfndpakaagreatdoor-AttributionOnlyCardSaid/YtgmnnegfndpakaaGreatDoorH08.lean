import Derived.Test.YtgmnnegfndpakaaGreatDoorH06
import Derived.RangeFuncNested
import Derived.RangeFuncBound
import Derived.RangeFuncCalls
import Derived.RangeFuncLeaves
import Derived.OwnWalkIn
import Derived.TacticsInMore
import Derived.LoopNIn
import Derived.LoopIn
import Derived.Shelf.Abstract
import Derived.Shelf.RegionOpen
import Derived.Lib.AppendIntMem
import Derived.Shelf.Spec.SlicesGrow
import Derived.Laws.AppendOwn
set_option maxHeartbeats 20000000
set_option maxRecDepth 100000
namespace Go.Proofs.YtgmnnegfndpakaaGreatDoor
open Go.RowKit
theorem dF{M:Nat->Prop}(W:World)(l:Nat)(o:Obj)(h:M l):Kept M W (W.putObj l o):=by
 have g:=grownBy_putObj' W l o;exact⟨g.os,g.tape,g.output,g.size,λk hk hm=>g.block k hk (λe=>hm (by rw[zI e];exact h))⟩
theorem fE{M M':Nat->Prop}{a b:World}(h:Kept M a b)(hm:∀k,M k->M' k):Kept M' a b:=⟨h.os,h.tape,h.output,h.size,λk hk hn=>h.block k hk (λe=>hn (hm k e))⟩
def aps{α:Type}(P:Program)(g:Nat)(lb:Array Value)(encs:α->Array Value)(X:Nat->Prop)(S Sp Bd:List α->Prop)(w0:World):Prop:=
 ∀(n l:Nat) (J:Nat->List α->World->Prop) (Jx:List α->World->Prop) (W:World),Kept X w0 W->(∀hi pre A,J hi pre A->Bd pre)->
  (∀hi pre A B,J hi pre A->W.heap.size<=hi->hi<=A.heap.size->Kept (λk=>W<=k/\k<hi) A B->J hi pre B)->
  (∀hi A,J hi [] A->W.heap.size<=hi->hi<=A.heap.size->J A.heap.size [] A)->
  (∀m hi pre x A,J hi pre A->Sp (pre++[x])->W.heap.size<=hi->hi<=A.heap.size->YieldAt Fence.wide m P l (encs x) A λe B=>
    (e= .returned true/\J hi (pre++[x]) B/\Kept (λk=>(k<W/\X k)\/hi<=k) A B)\/(e= .returned false/\Jx (pre++[x]) B))->
  J W [] W->
  CallsIn Fence.wide n P g (#[.func (.yield l) #[] #[]]++lb) W λe B=>(∃v,e= .returned v)/\((∃hi xs,S xs/\J hi xs B)\/(∃pre,Sp pre/\Jx pre B))
def arv{α:Type}(lo hi:Nat)(X:Nat->Prop)(I:Nat->List α->World->Prop)(Ix:Code->List α->World->Prop)(xs:List α)(W:World):Exit->Act->World->Prop
 | .normal,_,W'=>Kept (λk=>(k<lo/\X k)\/hi<=k) W W'/\I hi xs W'
 | .ret,_,W'=>Kept (λk=>(k<lo/\X k)\/hi<=k) W W'/\Ix .ret xs W'
 | .exit id,_,W'=>Kept (λk=>(k<lo/\X k)\/hi<=k) W W'/\Ix (.exit id) xs W'
 | .goto t,_,W'=>Kept (λk=>(k<lo/\X k)\/hi<=k) W W'/\Ix (.goto t) xs W'
 | .panic _,_,_=>False
 | .outgrown,_,_=>False
theorem WJ{α:Type}{P:Program}{n:Nat}{g:Operand}{ps:Array Tmp}{assign body:Code}{Q:Exit->Act->World->Prop}{a:Act}{w:World}
 {gf:Nat} {lb:Array Value} (hg:a.eval g= .func (.func gf) #[] lb) (eg:∀args w,(callFunc gf args).run P w= .ok (.enter gf args) w)
 {encs:α->Array Value} {X:Nat->Prop} {S Sp Bd:List α->Prop} {w0:World} (yQ:aps P gf lb encs X S Sp Bd w0) (GR:Kept X w0 w) (hX:¬X w.heap.size/\¬X (w.heap.size+1)) (ZC:∀x,(encs x).size=ps.size)
 (I:Nat->List α->World->Prop) (Ix:Code->List α->World->Prop) (hBd:∀hi pre W,I hi pre W->Bd pre)
 (hI:∀hi pre A B,I hi pre A->w.heap.size+2<=hi->hi<=A.heap.size->Kept (λk=>w.heap.size<=k/\k<hi) A B->I hi pre B)
 (hI0:∀hi A,I hi [] A->w.heap.size+2<=hi->hi<=A.heap.size->I A.heap.size [] A)
 (hIx:∀c pre A B,Ix c pre A->Kept (λk=>w<=k/\k<w+2) A B->Ix c pre B)
 (h0:∀W,Bw w W->w.heap.size+2<=W.heap.size->I (w.heap.size+2) [] W)
 (a₁:α->World->Act) (wA:α->World->World) (hA:∀x W,Bw W (wA x W))
 (hassign:∀(m l:Nat) (x:α) (W:World) (K:Act->World->Prop),K (a₁ x W) (wA x W)->
   assign.wpIn (Fence.wide.inRound l) m P (Exit.then K (λ_ _ _=>False)) { tmps:=(ps.zip (encs x)).foldl (λt (p,v)=>t.setIfInBounds p v) a.tmps,defers:=[] } W)
 (WL:∀(m l hi:Nat) (pre:List α) (x:α) (W W2:World),I hi pre W2->Sp (pre++[x])->w+2<=hi->hi<=W->Kept (λk=>k=w+1) (wA x W) W2->
   body.wpIn (Fence.wide.inRound l) m P (arv (w.heap.size+2) hi X I Ix (pre++[x]) W2) (a₁ x W) W2)
 (WM:∀(hi:Nat) (xs:List α) (W:World),S xs->I hi xs W->W.heap[w.heap.size]?=some (.deferred (some []))->Q .normal { a with defers:={ target:=.collected w,args:=#[] }::a.defers } W)
 (WN:∀(c:Code) (pre:List α) (W:World),Sp pre->Ix c pre W->W.heap[w.heap.size]?=some (.deferred (some []))->c.wpIn Fence.wide n P Q { a with defers:={ target:=.collected w,args:=#[] }::a.defers } W):
 (Code.rangeFunc g ps assign body).wpIn Fence.wide n P Q a w:=by
 refine wpIn_rangeFunc ?_;intro fn IU;obtain⟨rec,oD⟩:∃rec:LoopState->Option Code->Loop,rec=λst pe=>{ state:=st,pending:=pe,fn,tmps:=a.tmps,params:=ps,assign,body,defers:=w.heap.size }:=⟨_,rfl⟩;obtain⟨W1,SQ⟩:=zF ((w.alloc (.deferred (some []))).alloc (.loop (rec .ready none)));have nC:W1=w.heap.size+2:=(by rw[<-SQ];simp)
 have hL1:W1.heap[w.heap.size+1]?=some (.loop (rec .ready none)):=by
  rw[<-SQ];have:=World.alloc_heap_new (w.alloc (.deferred (some []))) (.loop (rec .ready none));rwa [World.size_alloc] at this
 have hK1:W1.heap[w.heap.size]?=some (.deferred (some [])):=by
  rw[<-SQ];exact(Below.heap_alloc _ _ _ zP).trans (World.alloc_heap_new w _)
 have ai:Bw w W1:=by
  rw[<-SQ];exact((j9 _ w).alloc (zR _) _).alloc zP _
 refine⟨w.heap.size+1,[{ target:=.collected w,args:=#[] }],W1,{ target:=.fn (.func gf) lb,args:=#[.func (.yield (w.heap.size+1)) #[] #[]] },W1,gf,
  #[.func (.yield (w.heap.size+1)) #[] #[]]++lb,W1,?_,?_,λ_ _=>trivial,?_,λh=>by simp[Fence.wide] at h,?_⟩
 ·rw[<-SQ,oD];exact run_enterLoop_outer _ _ _ _ _
 ·simp only[resolve,hg];simp[go_sem]
 ·simp[invoke,go_sem,eg]
 refine ((t6 (n:=n)).1 (yQ n (w.heap.size+1)
  (λhi pre W=>I hi pre W/\w+2<=hi/\hi<=W/\W.heap[w.heap.size+1]?=some (.loop (rec .ready none))/\W.heap[w.heap.size]?=some (.deferred (some [])))
  (λpre W=>∃c,Ix c pre W/\W.heap[w.heap.size+1]?=some (.loop (rec .done (some c)))/\W.heap[w.heap.size]?=some (.deferred (some [])))
  W1 (GR.trans (Qh ai)) (λhi pre A h=>hBd hi pre A h.1) ?s1 ?s0 ?sy ⟨nC ▸ h0 W1 ai zO,zO,zO,hL1,hK1⟩) |> λh=>(t6 (n:=n - 1)).2 h).mono ?sr
 case s1=>
  rintro hi pre A B ⟨h1,h2,h3,h4,h5⟩ o8 yx hk;refine⟨hI hi pre A B h1 h2 h3 (fE hk λk hk=>⟨zO,hk.2⟩),h2,zT h3 hk.size,?_,?_⟩
  ·exact(hk.block _ (aC h4) zO).trans h4
  exact(hk.block _ (aC h5) zO).trans h5
 case s0=>
  rintro hi A ⟨h1,h2,h3,h4,h5⟩ _ _;exact⟨hI0 hi A h1 h2 h3,zO,zR _,h4,h5⟩
 case sy=>
  rintro m hi pre x W ⟨hi1,o8,yx,hl,hk⟩ hlen - -;have aN:=aC hl;have hy:=run_yield (P:=P) (args:=encs x) hl (by rw[oD];exact ZC x);rw[oD] at hy;have AA:=hA x W;have hlA:(wA x W).heap[w.heap.size+1]?=some (.loop (rec .ready none)):=ae hl AA;have hkA:(wA x W).heap[w.heap.size]?=some (.deferred (some [])):=ae hk AA;refine⟨fn,_,assign,body,hy,roundIn_of_wpIn IU (hassign _ _ x W _ ⟨_,run_beginRound hlA (by rw[oD]),?_⟩)⟩;have dm:Kept (λk=>k=w+1) (wA x W) ((wA x W).putObj (w.heap.size+1) (.loop { rec .ready none with state:=.busy })):=dF _ _ _ rfl;have lW:((wA x W).putObj (w.heap.size+1) (.loop { rec .ready none with state:=.busy })).heap[w.heap.size+1]?=some (.loop { rec .ready none with state:=.busy }):=World.putObj_heap_same (aC hlA);have jc:((wA x W).putObj (w.heap.size+1) (.loop { rec .ready none with state:=.busy })).heap[w.heap.size]?=some (.deferred (some [])):=(World.putObj_heap_other zO).trans hkA;have oW:hi<=((wA x W).putObj (w.heap.size+1) (.loop { rec .ready none with state:=.busy })).heap.size:=zT (zT yx AA.size) dm.size;obtain⟨W2,hW2⟩:∃W2,(wA x W).putObj (w.heap.size+1) (.loop { rec .ready none with state:=.busy })=W2:=⟨_,rfl⟩;rw[hW2] at dm lW jc oW ⊢;have hi2:I hi pre W2:=hI hi pre (wA x W) W2 (hI hi pre W (wA x W) hi1 o8 yx ((Qh AA (M:=λk=>w<=k/\k<hi)))) o8 (zT yx AA.size) (fE dm λk e=>by rw[e];omega);refine wpIn_mono (WL _ _ hi pre x W W2 hi2 hlen o8 yx dm) ?_
  have fin:∀(jump:Option Code) (W3:World),Kept (λk=>(k<w+2/\X k)\/hi<=k) W2 W3->
   (Instr.endRound (w.heap.size+1) jump).run P W3= .ok jump.isNone (W3.putObj (w.heap.size+1) (.loop (rec (if jump.isNone then .ready else .done) jump)))/\
   (W3.putObj (w.heap.size+1) (.loop (rec (if jump.isNone then .ready else .done) jump))).heap[w.heap.size+1]?=some (.loop (rec (if jump.isNone then .ready else .done) jump))/\
   (W3.putObj (w.heap.size+1) (.loop (rec (if jump.isNone then .ready else .done) jump))).heap[w.heap.size]?=some (.deferred (some []))/\w.heap.size+1<W3:=λjump W3 bW=>by
   have QN:W3.heap[w.heap.size+1]?=some (.loop { rec .ready none with state:=.busy }):=(bW.block _ (aC lW) (by rintro (⟨_,h⟩ | h);exact hX.2 h;omega)).trans lW;have sZ:W3.heap[w.heap.size]?=some (.deferred (some [])):=(bW.block _ (aC jc) (by rintro (⟨_,h⟩ | h);exact hX.1 h;omega)).trans jc;have:=run_endRound (P:=P) jump QN;rw[oD] at this ⊢;exact⟨this,World.putObj_heap_same (aC QN),(World.putObj_heap_other zO).trans sZ,aC QN⟩
  rintro e a3 W3 hp
  cases e with
  | normal=>
    obtain⟨bW,jI⟩:=hp;obtain⟨hr,vK,jl,EC⟩:=fin none W3 bW;refine⟨_,_,hr,.inl ⟨rfl,⟨hI hi _ W3 _ jI o8 (zT oW bW.size) (dF _ _ _ zO),o8,?_,vK,jl⟩,?_⟩⟩
    ·exact zT (zT oW bW.size) (grownBy_putObj' W3 _ _).size
    have dW:Kept (λk=>((k<w+2/\X k)\/hi<=k)\/k=w+1) W (W3.putObj (w.heap.size+1) (.loop (rec (if (none:Option Code).isNone then .ready else .done) none))):=
        (((Qh AA).trans (fE dm λk e=>.inr e)).trans (fE bW λk e=>.inl e)).trans (dF _ _ _ (.inr rfl))
    refine⟨dW.os,dW.tape,dW.output,dW.size,λk fM hm=>?_⟩;by_cases e:k=w+1
    ·rw[e,hl];exact vK
    exact dW.block k fM (by
     rintro (h | h)
     ·exact hm (by rw[nC];exact h)
     exact e h)
  | ret=>
    obtain⟨bW,jI⟩:=hp;obtain⟨hr,vK,jl,EC⟩:=fin (some .ret) W3 bW;exact⟨_,_,hr,.inr ⟨rfl,.ret,hIx _ _ _ _ jI (dF _ _ _ zO),vK,jl⟩⟩
  | exit id=>
    obtain⟨bW,jI⟩:=hp;obtain⟨hr,vK,jl,EC⟩:=fin (some (.exit id)) W3 bW;exact⟨_,_,hr,.inr ⟨rfl,.exit id,hIx _ _ _ _ jI (dF _ _ _ zO),vK,jl⟩⟩
  | goto t=>
    obtain⟨bW,jI⟩:=hp;obtain⟨hr,vK,jl,EC⟩:=fin (some (.goto t)) W3 bW;exact⟨_,_,hr,.inr ⟨rfl,.goto t,hIx _ _ _ _ jI (dF _ _ _ zO),vK,jl⟩⟩
  | panic ch=>exact hp.elim
  | outgrown=>exact hp.elim
 case sr=>
  rintro e W2 ⟨⟨v,rfl⟩,(⟨hi,xs,hS,h1,h2,h3,hl,hk⟩ | ⟨pre,hSp,c,h1,hl,hk⟩)⟩
  ·exact⟨none,_,by have:=run_endLoop (P:=P) hl (by rw[oD];simp);rw[oD] at this;exact this,WM hi xs _ hS (hI hi xs W2 _ h1 h2 h3 (dF _ _ _ zO)) ((World.putObj_heap_other zO).trans hk)⟩
  exact⟨some c,_,by have:=run_endLoop (P:=P) hl (by rw[oD];simp);rw[oD] at this;exact this,WN c pre _ hSp (hIx c pre W2 _ h1 (dF _ _ _ zO)) ((World.putObj_heap_other zO).trans hk)⟩
def TB(T:Nat->Prop)(lo:Nat)(A:World):Prop:=∀k,T k->lo<=k/\k<A.heap.size
theorem TB.size{T:Nat->Prop}{lo:Nat}{A B:World}(h:TB T lo A)(hs:A.heap.size<=B):TB T lo B:=λk hk=>⟨(h k hk).1,d4 (h k hk).2 hs⟩
def apt{α:Type}(P:Program)(g:Nat)(lb:Array Value)(encs:α->Array Value)(X:Nat->Prop)(S Sp Bd:List α->Prop)(w0:World):Prop:=
 ∀(n l:Nat) (J:(Nat->Prop)->List α->World->Prop) (Jx:List α->World->Prop) (W:World),Kept X w0 W->(∀T pre A,J T pre A->Bd pre)->
  (∀T pre A B,J T pre A->TB T W A->Kept T A B->J T pre B)->
  (∀T pre A B,J T pre A->TB T W A->W.heap.size<=A.heap.size->Kept T A B->J (λk=>T k\/(A.heap.size<=k/\k<B.heap.size)) pre B)->
  (∀m T pre x A,J T pre A->Sp (pre++[x])->TB T W A->W.heap.size<=A.heap.size->YieldAt Fence.wide m P l (encs x) A λe B=>
    (e= .returned true/\J T (pre++[x]) B/\Kept (λk=>(k<W/\X k)\/(W<=k/\¬T k)) A B)\/(e= .returned false/\Jx (pre++[x]) B))->
  J (λ_=>False) [] W->
  CallsIn Fence.wide n P g (#[.func (.yield l) #[] #[]]++lb) W λe B=>(∃v,e= .returned v)/\((∃T xs,S xs/\J T xs B)\/(∃pre,Sp pre/\Jx pre B))
section
open Go.Shelf
attribute [local go_sem] Oper.semAt_some
theorem aa7{F:Fence}{n:Nat}{P:Program}{ops:Array Oper}{rest:List Oper}{o:Oper}{a:Act}{Q:Exit->Act->World->Prop}{w:World}(uO:o.guard=none)(s x:Operand)(t:TypeId)
 (uQ:o.op= .call { callee:=.builtin .append,args:=#[s,x],argTypes:=#[t,t] }) {α:Type} {cells:α->List Value} {e:TypeId} {z:Value} {sz bytes:Nat} (hT:rC P t e z sz bytes)
 (h1:∀(l:List α),∀u∈l.flatMap cells,u.oneCell'=true) (base:Nat) (l l2:List α) (v:Value) (hs:a.eval s=v) (dV:ax w base e sz cells l v)
 (A:Option Addr) (m c:Nat) (hx:a.eval x= (A,m,c)) (hr:Src w sz A m (l2.flatMap cells)) (hm:m=l2.length) (rY:l.length+m<4000000) (eY:base<=w)
 (h:∀v' w',ax w' base e sz cells (l++l2) v'->w.grownBy w' v.ownBlock->(v'.ownBlock=v.ownBlock\/v'.ownBlock=some w.heap.size)->wpListIn F n P ops Q rest (a.put o.dst v') w'):wpListIn F n P ops Q (o::rest) a w:=by
 obtain⟨ht,i,hi,hz,bY,nP,ry,h0,xZ⟩:=hT;refine wpListIn_plain uO λK hK'=>?_;obtain⟨v',w',bG,r1,r2,r3⟩:=TD (P:=P) w base t o.type e i z sz bytes ht hi hz bY nP ry h0 v _ _ dV A m c _ hr (h1 l2) rY xZ eY;unfold Oper.wpIn;refine⟨?_,?_⟩
 ·simp[Oper.about,uQ,resolve,Target.leads,Sem.run_pure]
 rw[Oper.semAt_plain F _ _ (by rw[uQ];intro c yu;cases yu)];simp[execOp,uQ,resolve,invoke,builtin,hs,hx,bG,Result.andThen];exact hK' _ _ (h v' w' (by unfold ax;rw[z5,l6,<-hm];exact r1) r2 r3)
theorem ax.from{α:Type}{w w':World}{base:Nat}{e:TypeId}{sz:Nat}{cells:α->List Value}{l:List α}{v:Value}(h:ax w base e sz cells l v)(hk:∀k,base<=k->k<w.heap.size->w'.heap[k]?=w.heap[k]?):ax w' base e sz cells l v:=by
 refine⟨h.1,?_⟩
 rcases h.2 with h2 | ⟨g,cap,cur,rfl,hg,hh,r⟩
 ·exact .inl h2
 have aN:=aC hh;exact .inr ⟨g,cap,cur,rfl,hg,by rw[hk g hg aN];exact hh,r⟩
theorem ax.block_lt{α:Type}{w:World}{base:Nat}{e:TypeId}{sz:Nat}{cells:α->List Value}{l:List α}{v:Value}{k:Nat}(h:ax w base e sz cells l v)(hv:v.ownBlock=k):base<=k/\k<w:=by
 rcases h.2 with ⟨rfl,_⟩ | ⟨g,cap,cur,rfl,hg,hh,r⟩
 ·cases hv
 cases hv;exact⟨hg,aC hh⟩
theorem ax.rowAt{α:Type}{w:World}{base:Nat}{e:TypeId}{sz:Nat}{cells:α->List Value}{l:List α}{v:Value}(h:ax w base e sz cells l v)(hl:∀x,(cells x).length=sz)(bY:0<sz)(F:Nat->Prop)(hF:∀b,v.ownBlock=some b->F b):
 ∃A c,v= .slice A l.length c/\aY w F sz cells l A l.length/\l.length<=c/\c<=maxLen:=by
 obtain⟨A,c,rfl,hr,h1,h2⟩:=h.row hl bY;refine⟨A,c,rfl,⟨hr.1,λhp=>?_⟩,h1,h2⟩;obtain⟨b,off,hA,hb,hc⟩:=hr.2 hp;exact⟨b,off,hA,hF b (by rw[hA];rfl),hc⟩
theorem ax.form{α:Type}{w:World}{base:Nat}{e:TypeId}{sz:Nat}{cells:α->List Value}{l:List α}{v:Value}(h:ax w base e sz cells l v):∃A c,v= .slice A l.length c:=by
 rcases h.2 with ⟨rfl,hn⟩ | ⟨g,cap,cur,rfl,_⟩
 ·exact⟨none,0,by rw[hn]⟩
 exact⟨_,_,rfl⟩
theorem ax.low{α:Type}{w:World}{base base':Nat}{e:TypeId}{sz:Nat}{cells:α->List Value}{l:List α}{v:Value}(h:ax w base e sz cells l v)(hb:base'<=base):ax w base' e sz cells l v:=by
 refine⟨h.1,?_⟩
 rcases h.2 with h2 | ⟨g,cap,cur,rfl,hg,r⟩
 ·exact .inl h2
 exact .inr ⟨g,cap,cur,rfl,zT hb hg,r⟩
end
section
open Go.Shelf
attribute [local go_sem] Oper.semAt_some
section
variable {κ:Type} {P:Program}
theorem YJ(m:Nat)(hm:1<=m)(W:World):∃q d,q<m/\(choose (.mapNext m)).run P W= .ok q (W.drewN d):=by
 by_cases h:m<=1
 ·exact⟨0,0,zO,by simp[choose,Sem.run,Question.forced,h,World.drewN]⟩
 refine⟨W.tape W.drawn (.mapNext m) % m,1,Nat.mod_lt _ zO,?_⟩;simp[choose,Sem.run,Question.forced,h,Question.cut,World.drewN]
theorem run_range_map{mt kt et:TypeId}(hm:P.underlying mt=some (.map kt et)){enc:κ->Value}{W:World}{g:Nat}{L:List (κ×Bool)}(h:iM W g enc L):
 (Instr.range mt (.map (some g))).run P W= .ok (W,0) (W.alloc (.mapIter (some g) L.length #[] L.length)):=by
 have hg:=MapKept.run_getObj_map (P:=P) (show W.heap[g]?=some (.map (mE enc L 0).toArray L.length) from h);simp[Instr.range,run_underlying hm,hg,Result.andThen,go_sem]
theorem akl{enc:κ->Value}{L:List (κ×Bool)}{e:MapEntry}(h:e∈mE enc L 0):∃p,L[e.born]?=some p/\e=⟨enc p.1,.bool p.2,e.born⟩:=by
 obtain⟨j,hj,rfl⟩:=List.mem_iff_getElem.1 h;have h1:=QP enc L 0 j;rw[z6 hj] at h1
 cases hL:L[j]? with
 | none=>rw[hL] at h1;cases h1
 | some p=>
   rw[hL] at h1;simp only[Option.map_some,l5,d9] at h1;rw[h1];exact⟨p,hL,rfl⟩
theorem YK{enc:κ->Value}{L:List (κ×Bool)}{i:Nat}{p:κ×Bool}(h:L[i]?=p):(⟨enc p.1,p.2,i⟩:MapEntry)∈mE enc L 0:=by
 have h1:=QP enc L 0 i;rw[h] at h1;simp only[Option.map_some,d9] at h1;exact SK h1
theorem Dq{W:World}{bi g n:Nat}{seen:Array Nat}(h:W.heap[bi]?=some (.mapIter (some g) n seen n)):(getObj bi).run P W= .ok (.mapIter (some g) n seen n) W:=by
 simp[getObj,Sem.run,h]
theorem aba{enc:κ->Value}{W:World}{g bi:Nat}{L:List (κ×Bool)}{seen:Array Nat}(h:iM W g enc L)(hi:W.heap[bi]?=some (.mapIter (some g) L.length seen L.length))(hu:∃i,i<L.length/\i ∉ seen)(ty:TypeId):
 ∃i k v d,L[i]?=some (k,v)/\i ∉ seen/\(Instr.next (bi,0) false ty).run P W= .ok (.tuple #[true,enc k,.bool v]) { W.drewN d with heap:=W.heap.setIfInBounds bi (.mapIter (some g) L.length (seen.push i) L.length) }:=by
 have hg:=MapKept.run_getObj_map (P:=P) (show W.heap[g]?=some (.map (mE enc L 0).toArray L.length) from h);have hgi:=Dq (P:=P) hi;obtain⟨i0,UI,hs0⟩:=hu
 have dW:¬((!seen.isEmpty&&!(mE enc L 0).toArray.isEmpty&&(mE enc L 0).toArray.all (λe=>decide (e.born≥L.length)))=true):=by
  intro hc;rw[z7] at hc;have h2:=hc.2;rw[Array.all_eq_true'] at h2;have h3:=h2 _ (by simpa using YK (enc:=enc) (z6 UI));simp at h3;omega
 obtain⟨left,Xr⟩:=zF (((mE enc L 0).toArray.filter λe=>!seen.contains e.born))
 have jb:∀e,e∈left->∃p,L[e.born]?=some p/\e=⟨enc p.1,.bool p.2,e.born⟩/\e.born ∉ seen:=by
  intro e he;rw[<-Xr,Array.mem_filter] at he;obtain⟨p,h1,h2⟩:=akl (by simpa using he.1);exact⟨p,h1,h2,by simpa using he.2⟩
 have hold:left.filter (λe=>decide (e.born<L.length))=left:=by
  rw[Array.filter_eq_self];intro e he;obtain⟨p,h1,_⟩:=jb e he;have:=(z4.1 h1).1;simpa using this
 have YL:left.filter (λe=>decide (e.born≥L.length))= #[]:=by
  rw[Array.filter_eq_empty_iff];intro e he;obtain⟨p,h1,_⟩:=jb e he;have:=(z4.1 h1).1;simp;omega
 have dD:left.isEmpty=false:=by
  have:(⟨enc L[i0].1,L[i0].2,i0⟩:MapEntry)∈left:=by
   rw[<-Xr,Array.mem_filter];exact⟨by simpa using YK (enc:=enc) (z6 UI),by simpa using hs0⟩
  rw[Bool.eq_false_iff];intro hc;rw[Array.isEmpty_iff] at hc;rw[hc] at this;simp at this
 have bY:1<=left.size:=by
  rw[Bool.eq_false_iff] at dD;have:left≠#[]:=λe=>dD (by rw[e];rfl);have:=Array.size_pos_iff.2 this;omega
 obtain⟨q,d,hq,bG⟩:=YJ (P:=P) left.size bY W
 have axS:((if left.isEmpty then #[none] else #[])++(left++ #[]).map some:Array (Option MapEntry))=left.map some:=by
  rw[dD];simp
 have hq1:(left.map some)[q]?=some (some left[q]):=(by simp[hq]);obtain⟨p,h1,h2,h3⟩:=jb left[q] (Array.getElem_mem hq);refine⟨left[q].born,p.1,p.2,d,h1,h3,?_⟩
 have Gh:(setObj bi (.mapIter (some g) L.length (seen.push left[q].born) L.length)).run P (W.drewN d)= .ok () { W.drewN d with heap:=W.heap.setIfInBounds bi (.mapIter (some g) L.length (seen.push left[q].born) L.length) }:=by
  have:(W.drewN d).heap[bi]?=some (.mapIter (some g) L.length seen L.length):=hi;simp only[setObj,Sem.run,this];rfl
 simp only[Instr.next,Sem.run_bind,hgi,Result.andThen,hg,Xr];rw[j5 dW];simp only[Sem.run_bind,Sem.run_pure,Result.andThen,hold,YL,axS,Array.size_map,bG,hq1,Gh];rw[h2]
theorem abb{enc:κ->Value}{W:World}{g bi:Nat}{L:List (κ×Bool)}{seen:Array Nat}(h:iM W g enc L)(hi:W.heap[bi]?=some (.mapIter (some g) L.length seen L.length))(hu:∀i,i<L.length->i∈seen)(ty:TypeId):
 (Instr.next (bi,0) false ty).run P W= .ok (.tuple #[false]) W:=by
 have hg:=MapKept.run_getObj_map (P:=P) (show W.heap[g]?=some (.map (mE enc L 0).toArray L.length) from h);have hgi:=Dq (P:=P) hi
 have dW:¬((!seen.isEmpty&&!(mE enc L 0).toArray.isEmpty&&(mE enc L 0).toArray.all (λe=>decide (e.born≥L.length)))=true):=by
  intro hc;rw[z7] at hc;have h2:=hc.2;rw[Array.all_eq_true'] at h2
  cases L with
  | nil=>simp[mE] at hc
  | cons p L=>
    have h3:=h2 _ (by simpa using YK (enc:=enc) (L:=p::L) (i:=0) (p:=p) rfl);simp at h3
 have Xr:((mE enc L 0).toArray.filter λe=>!seen.contains e.born)= #[]:=by
  rw[Array.filter_eq_empty_iff];intro e he;obtain⟨p,h1,_⟩:=akl (by simpa using he);have:=hu _ (z4.1 h1).1;simpa using this
 have bG:(choose (.mapNext 1)).run P W= .ok 0 W:=(by simp[choose,Sem.run,Question.forced]);simp only[Instr.next,Sem.run_bind,hgi,Result.andThen,hg,Xr];rw[j5 dW];simp only[Sem.run_bind,Result.andThen];have hfo:(Question.mapNext 1).forced=true:=rfl;simp[hfo]
theorem agb(enc:κ->Value):∀(L:List (κ×Bool)) (s j:Nat),(mE enc L s).find? (λe=>e.born==s+j)=(L[j]?).map λp=>⟨enc p.1,p.2,s+j⟩
 | [],s,j=>by simp[mE]
 | (k,v)::L,s,0=>by simp[mE]
 | (k,v)::L,s,j+1=>by
   rw[mE,List.find?_cons_of_neg zP,List.getElem?_cons_succ,show s+(j+1)=s+1+j by omega,agb enc L (s+1) j]
theorem akn{enc:κ->Value}{W:World}{g bi:Nat}{L:List (κ×Bool)}{seen:Array Nat}{i:Nat}{k:κ}{v:Bool}(h:iM W g enc L)(hi:W.heap[bi]?=some (.mapIter (some g) L.length (seen.push i) L.length))(hL:L[i]?=some (k,v)):
 (Instr.entry (bi,0)).run P W= .ok (.tuple #[enc k,v]) W:=by
 have hg:=MapKept.run_getObj_map (P:=P) (show W.heap[g]?=some (.map (mE enc L 0).toArray L.length) from h);have hgi:=Dq (P:=P) hi;have hf:=agb enc L 0 i;rw[hL] at hf;simp only[d9,Option.map_some] at hf;simp[Instr.entry,hgi,Result.andThen,hg,hf]
end
end
def yF{α:Type}(P:Program)(g:Nat)(lb:Array Value)(encs:α->Array Value)(X:Nat->Prop)(S Sp:List α->Prop)(w0:World):Prop:=
 ∀(n l:Nat) (J:List α->World->Prop) (Jx:List α->World->Prop) (W:World),Kept X w0 W->
  (∀pre A B,J pre A->W.heap.size<=A.heap.size->Bw A B->J pre B)->
  (∀m pre x A,J pre A->Sp (pre++[x])->W.heap.size<=A.heap.size->YieldAt Fence.wide m P l (encs x) A λe B=>
    (e= .returned true/\J (pre++[x]) B/\Kept (λk=>X k\/W<=k) A B)\/(e= .returned false/\Jx (pre++[x]) B))->
  J [] W->
  CallsIn Fence.wide n P g (#[.func (.yield l) #[] #[]]++lb) W λe B=>(∃v,e= .returned v)/\((∃xs,S xs/\J xs B)\/(∃pre,Sp pre/\Jx pre B))
def anl{α:Type}(lo:Nat)(X:Nat->Prop)(I:List α->World->Prop)(Ix:Code->List α->World->Prop)(xs:List α)(W:World):Exit->Act->World->Prop
 | .normal,_,W'=>Kept (λk=>X k\/lo<=k) W W'/\I xs W'
 | .ret,_,W'=>Kept (λk=>X k\/lo<=k) W W'/\Ix .ret xs W'
 | .exit id,_,W'=>Kept (λk=>X k\/lo<=k) W W'/\Ix (.exit id) xs W'
 | .goto t,_,W'=>Kept (λk=>X k\/lo<=k) W W'/\Ix (.goto t) xs W'
 | .panic _,_,_=>False
 | .outgrown,_,_=>False
theorem Lp{α:Type}{P:Program}{n:Nat}{g:Operand}{ps:Array Tmp}{assign body:Code}{Q:Exit->Act->World->Prop}{a:Act}{w:World}
 {gf:Nat} {lb:Array Value} (hg:a.eval g= .func (.func gf) #[] lb) (eg:∀args w,(callFunc gf args).run P w= .ok (.enter gf args) w)
 {encs:α->Array Value} {X:Nat->Prop} {S Sp:List α->Prop} {w0:World} (yQ:yF P gf lb encs X S Sp w0) (GR:Kept X w0 w) (hX:∀k,X k->k<w.heap.size) (ZC:∀x,(encs x).size=ps.size)
 (I:List α->World->Prop) (Ix:Code->List α->World->Prop)
 (hI:∀pre A B,I pre A->w.heap.size+2<=A.heap.size->Bw A B->I pre B)
 (hL:∀pre A B,I pre A->w.heap.size+2<=A.heap.size->Kept (λk=>k=w.heap.size\/k=w.heap.size+1) A B->I pre B)
 (hIx:∀c pre A B,Ix c pre A->Kept (λk=>w.heap.size<=k/\k<w.heap.size+2) A B->Ix c pre B)
 (h0:∀W,Bw w W->w.heap.size+2<=W.heap.size->I [] W)
 (a₁:α->World->Act) (wA:α->World->World) (hA:∀x W,Bw W (wA x W))
 (hassign:∀(m l:Nat) (x:α) (W:World) (K:Act->World->Prop),K (a₁ x W) (wA x W)->
   assign.wpIn (Fence.wide.inRound l) m P (Exit.then K (λ_ _ _=>False)) { tmps:=(ps.zip (encs x)).foldl (λt (p,v)=>t.setIfInBounds p v) a.tmps,defers:=[] } W)
 (WL:∀(m l:Nat) (pre:List α) (x:α) (W W2:World),I pre W2->Sp (pre++[x])->w.heap.size+2<=W->Kept (λk=>k=w+1) (wA x W) W2->
   body.wpIn (Fence.wide.inRound l) m P (anl (w.heap.size+2) X I Ix (pre++[x]) W2) (a₁ x W) W2)
 (WM:∀(xs:List α) (W:World),S xs->I xs W->W.heap[w.heap.size]?=some (.deferred (some []))->Q .normal { a with defers:={ target:=.collected w,args:=#[] }::a.defers } W)
 (WN:∀(c:Code) (pre:List α) (W:World),Sp pre->Ix c pre W->W.heap[w.heap.size]?=some (.deferred (some []))->c.wpIn Fence.wide n P Q { a with defers:={ target:=.collected w,args:=#[] }::a.defers } W):
 (Code.rangeFunc g ps assign body).wpIn Fence.wide n P Q a w:=by
 refine wpIn_rangeFunc ?_;intro fn IU;obtain⟨rec,oD⟩:∃rec:LoopState->Option Code->Loop,rec=λst pe=>{ state:=st,pending:=pe,fn,tmps:=a.tmps,params:=ps,assign,body,defers:=w.heap.size }:=⟨_,rfl⟩;obtain⟨W1,SQ⟩:=zF ((w.alloc (.deferred (some []))).alloc (.loop (rec .ready none)));have nC:W1=w.heap.size+2:=(by rw[<-SQ];simp)
 have hL1:W1.heap[w.heap.size+1]?=some (.loop (rec .ready none)):=by
  rw[<-SQ];have:=World.alloc_heap_new (w.alloc (.deferred (some []))) (.loop (rec .ready none));rwa [World.size_alloc] at this
 have hK1:W1.heap[w.heap.size]?=some (.deferred (some [])):=by
  rw[<-SQ];exact(Below.heap_alloc _ _ _ zP).trans (World.alloc_heap_new w _)
 have ai:Bw w W1:=by
  rw[<-SQ];exact((j9 _ w).alloc (zR _) _).alloc zP _
 refine⟨w.heap.size+1,[{ target:=.collected w,args:=#[] }],W1,{ target:=.fn (.func gf) lb,args:=#[.func (.yield (w.heap.size+1)) #[] #[]] },W1,gf,
  #[.func (.yield (w.heap.size+1)) #[] #[]]++lb,W1,?_,?_,λ_ _=>trivial,?_,λh=>by simp[Fence.wide] at h,?_⟩
 ·rw[<-SQ,oD];exact run_enterLoop_outer _ _ _ _ _
 ·simp only[resolve,hg];simp[go_sem]
 ·simp[invoke,go_sem,eg]
 refine ((t6 (n:=n)).1 (yQ n (w.heap.size+1)
  (λpre W=>I pre W/\w.heap.size+2<=W/\W.heap[w.heap.size+1]?=some (.loop (rec .ready none))/\W.heap[w.heap.size]?=some (.deferred (some [])))
  (λpre W=>∃c,Ix c pre W/\W.heap[w.heap.size+1]?=some (.loop (rec .done (some c)))/\W.heap[w.heap.size]?=some (.deferred (some [])))
  W1 (GR.trans (Qh ai)) ?s1 ?sy ⟨h0 W1 ai zO,zO,hL1,hK1⟩) |> λh=>(t6 (n:=n - 1)).2 h).mono ?sr
 case s1=>
  rintro pre A B ⟨h1,h2,h4,h5⟩ - hb;exact⟨hI pre A B h1 h2 hb,zT h2 hb.size,ae h4 hb,ae h5 hb⟩
 case sy=>
  rintro m pre x W ⟨hi1,yx,hl,hk⟩ hlen -;have aN:=aC hl;have hy:=run_yield (P:=P) (args:=encs x) hl (by rw[oD];exact ZC x);rw[oD] at hy;have AA:=hA x W;have hlA:(wA x W).heap[w.heap.size+1]?=some (.loop (rec .ready none)):=ae hl AA;have hkA:(wA x W).heap[w.heap.size]?=some (.deferred (some [])):=ae hk AA;refine⟨fn,_,assign,body,hy,roundIn_of_wpIn IU (hassign _ _ x W _ ⟨_,run_beginRound hlA (by rw[oD]),?_⟩)⟩;have dm:Kept (λk=>k=w+1) (wA x W) ((wA x W).putObj (w.heap.size+1) (.loop { rec .ready none with state:=.busy })):=dF _ _ _ rfl;have lW:((wA x W).putObj (w.heap.size+1) (.loop { rec .ready none with state:=.busy })).heap[w.heap.size+1]?=some (.loop { rec .ready none with state:=.busy }):=World.putObj_heap_same (aC hlA);have jc:((wA x W).putObj (w.heap.size+1) (.loop { rec .ready none with state:=.busy })).heap[w.heap.size]?=some (.deferred (some [])):=(World.putObj_heap_other zO).trans hkA;have oW:W.heap.size<=((wA x W).putObj (w.heap.size+1) (.loop { rec .ready none with state:=.busy })).heap.size:=zT AA.size dm.size;obtain⟨W2,hW2⟩:∃W2,(wA x W).putObj (w.heap.size+1) (.loop { rec .ready none with state:=.busy })=W2:=⟨_,rfl⟩;rw[hW2] at dm lW jc oW ⊢;have hi2:I pre W2:=hL pre (wA x W) W2 (hI pre W (wA x W) hi1 yx AA) (zT yx AA.size) (fE dm λk e=>.inr e);refine wpIn_mono (WL _ _ pre x W W2 hi2 hlen yx dm) ?_
  have fin:∀(jump:Option Code) (W3:World),Kept (λk=>X k\/w+2<=k) W2 W3->
   (Instr.endRound (w.heap.size+1) jump).run P W3= .ok jump.isNone (W3.putObj (w.heap.size+1) (.loop (rec (if jump.isNone then .ready else .done) jump)))/\
   (W3.putObj (w.heap.size+1) (.loop (rec (if jump.isNone then .ready else .done) jump))).heap[w.heap.size+1]?=some (.loop (rec (if jump.isNone then .ready else .done) jump))/\
   (W3.putObj (w.heap.size+1) (.loop (rec (if jump.isNone then .ready else .done) jump))).heap[w.heap.size]?=some (.deferred (some []))/\w.heap.size+1<W3:=λjump W3 bW=>by
   have QN:W3.heap[w.heap.size+1]?=some (.loop { rec .ready none with state:=.busy }):=(bW.block _ (aC lW) (by rintro (h | h);have:=hX _ h;omega;omega)).trans lW;have sZ:W3.heap[w.heap.size]?=some (.deferred (some [])):=(bW.block _ (aC jc) (by rintro (h | h);have:=hX _ h;omega;omega)).trans jc;have:=run_endRound (P:=P) jump QN;rw[oD] at this ⊢;exact⟨this,World.putObj_heap_same (aC QN),(World.putObj_heap_other zO).trans sZ,aC QN⟩
  rintro e a3 W3 hp
  cases e with
  | normal=>
    obtain⟨bW,jI⟩:=hp;obtain⟨hr,vK,jl,EC⟩:=fin none W3 bW;refine⟨_,_,hr,.inl ⟨rfl,⟨hL _ W3 _ jI (zT yx (zT oW bW.size)) (dF _ _ _ (.inr rfl)),?_,vK,jl⟩,?_⟩⟩
    ·exact zT (zT yx (zT oW bW.size)) (grownBy_putObj' W3 _ _).size
    have dW:Kept (λk=>(X k\/w+2<=k)\/k=w+1) W (W3.putObj (w.heap.size+1) (.loop (rec (if (none:Option Code).isNone then .ready else .done) none))):=
        (((Qh AA).trans (fE dm λk e=>.inr e)).trans (fE bW λk e=>.inl e)).trans (dF _ _ _ (.inr rfl))
    refine⟨dW.os,dW.tape,dW.output,dW.size,λk fM hm=>?_⟩;by_cases e:k=w+1
    ·rw[e,hl];exact vK
    exact dW.block k fM (by
     rintro (h | h)
     ·exact hm (by rw[nC];exact h)
     exact e h)
  | ret=>
    obtain⟨bW,jI⟩:=hp;obtain⟨hr,vK,jl,EC⟩:=fin (some .ret) W3 bW;exact⟨_,_,hr,.inr ⟨rfl,.ret,hIx _ _ _ _ jI (dF _ _ _ zO),vK,jl⟩⟩
  | exit id=>
    obtain⟨bW,jI⟩:=hp;obtain⟨hr,vK,jl,EC⟩:=fin (some (.exit id)) W3 bW;exact⟨_,_,hr,.inr ⟨rfl,.exit id,hIx _ _ _ _ jI (dF _ _ _ zO),vK,jl⟩⟩
  | goto t=>
    obtain⟨bW,jI⟩:=hp;obtain⟨hr,vK,jl,EC⟩:=fin (some (.goto t)) W3 bW;exact⟨_,_,hr,.inr ⟨rfl,.goto t,hIx _ _ _ _ jI (dF _ _ _ zO),vK,jl⟩⟩
  | panic ch=>exact hp.elim
  | outgrown=>exact hp.elim
 case sr=>
  rintro e W2 ⟨⟨v,rfl⟩,(⟨xs,hS,h1,h2,hl,hk⟩ | ⟨pre,hSp,c,h1,hl,hk⟩)⟩
  ·exact⟨none,_,by have:=run_endLoop (P:=P) hl (by rw[oD];simp);rw[oD] at this;exact this,WM xs _ hS (hL xs W2 _ h1 h2 (dF _ _ _ (.inr rfl))) ((World.putObj_heap_other zO).trans hk)⟩
  exact⟨some c,_,by have:=run_endLoop (P:=P) hl (by rw[oD];simp);rw[oD] at this;exact this,WN c pre _ hSp (hIx c pre W2 _ h1 (dF _ _ _ zO)) ((World.putObj_heap_other zO).trans hk)⟩
end Go.Proofs.YtgmnnegfndpakaaGreatDoor
namespace Go.Proofs
open Go Go.RowKit Go.Shelf
def Tryz.LG:Go.Shelf.Ren:=⟨fun | 4=>225 | n=>n,fun | 22=>24 | 25=>26 | 3=>3 | 4=>4 | 9=>9 | 20=>20 | 0=>0 | n=>n,fun | n=>n⟩
theorem Tryz.agP:Go.Proofs.Lays8.n4 Tryz.prog Tryz.LG:={
 mixed:=by kernel_rfl
 f4:=⟨Tryz.f225.name,by decide,Tryz.func225.trans (congrArg some (by kernel_rfl))⟩
 t0:=Tryz.underlying0
 a0:=Tryz.isAgg0
 z0:=Tryz.sizeOf0
 v0:=Tryz.zeroValue0
 t3:=Tryz.underlying3
 a3:=Tryz.isAgg3
 z3:=Tryz.sizeOf3
 v3:=Tryz.zeroValue3
 t4:=Tryz.underlying4
 a4:=Tryz.isAgg4
 z4:=Tryz.sizeOf4
 v4:=Tryz.zeroValue4
 t9:=Tryz.underlying9
 a9:=Tryz.isAgg9
 z9:=Tryz.sizeOf9
 v9:=Tryz.zeroValue9
 t20:=Tryz.underlying20
 a20:=Tryz.isAgg20
 z20:=Tryz.sizeOf20
 v20:=Tryz.zeroValue20
 t22:=Tryz.underlying24
 a22:=Tryz.isAgg24
 z22:=Tryz.sizeOf24
 v22:=Tryz.zeroValue24 }
end Go.Proofs
namespace Go.Proofs.YtgmnnegfndpakaaGreatDoor
open Go.RowKit
theorem Yb{w:World}{F:Nat->Prop}:∀(l:List aT) (b off:Nat),jq w F l b off->∃xs:List (rE 6),xs.length=l.length/\(∀(i:Nat) c x,l[i]?=some c->xs[i]?=some x->dA w F c x.1)/\cu w b off (xs.flatMap cN)
 | [],b,off,_=>⟨[],rfl,λi c x h=>by simp at h,λj v h=>by simp at h⟩
 | c::l,b,off,h=>by
   rw[jq] at h;obtain⟨⟨cs,h1,h2⟩,h3⟩:=h;obtain⟨xs,g1,g2,g3⟩:=Yb l b (off+6) h3;refine⟨⟨cs,afA h2⟩::xs,by rw[z9,z9,g1],λi c' x hc hx=>?_,λj v hj=>?_⟩
   ·cases i with
    | zero=>
      simp only[List.getElem?_cons_zero,l5] at hc hx;subst hc;subst hx;exact h2
    | succ i=>exact g2 i c' x (by simpa using hc) (by simpa using hx)
   rw[l4] at hj;have hl6:(cN (⟨cs,afA h2⟩:rE 6)).length=6:=abQ _;by_cases h6:j<6
   ·rw[z20 (by rw[hl6];exact h6)] at hj;exact h1 j v hj
   rw[z21 (by rw[hl6];omega),hl6] at hj;have:=g3 (j - 6) v hj;rwa [show off+6+(j - 6)=off+j by omega] at this
theorem Yc{w:World}{F:Nat->Prop}{l:List aT}{A:Option Addr}{n:Nat}(h:jO w F l A n):∃xs:List (rE 6),xs.length=n/\(∀(i:Nat) c x,l[i]?=some c->xs[i]?=some x->dA w F c x.1)/\Src w 6 A n (xs.flatMap cN)/\(∀b off,A=some ⟨b,off,none⟩->0<n->F b):=by
 rcases Nat.eq_zero_or_pos l.length with h0 | h0
 ·have hl:l=[]:=g9 h0;subst hl;have hn:n=0:=h.1;subst hn;exact⟨[],rfl,λi c x hc=>by simp at hc,Src.empty _ _ _,λ_ _ _ h=>by omega⟩
 obtain⟨b,off,hA,hb,hr⟩:=h.2 h0;obtain⟨xs,g1,g2,g3⟩:=Yb l b off hr;refine⟨xs,by rw[g1,h.1],g2,⟨by rw[tX abQ,g1,h.1],λ_=>⟨b,off,hA,g3⟩⟩,λb' off' e _=>?_⟩;rw[hA] at e;simp only[l5,Addr.mk.injEq] at e;rw[<-e.1];exact hb
theorem Src.aqA{w w':World}{sz:Nat}{A:Option Addr}{m:Nat}{news:List Value}{B:Nat}(h:Src w sz A m news)(hb:Below B w w')(hA:∀b off,A=some ⟨b,off,none⟩->0<m->b<B):Src w' sz A m news:=
 ⟨h.1,λhp=>by
  obtain⟨b,off,e,hc⟩:=h.2 hp
  exact⟨b,off,e,hc.keep (hb.block b (hA b off e hp))⟩⟩
theorem an6(n:Nat)(hn:n<1000000)(w:World):Cl 225 #[(),n] w λe w'=>∃v,e= .returned v/\ax w' w 26 6 cN ([]:List (rE 6)) v/\Bw w w':=by
 rcases Nat.eq_zero_or_pos n with h0 | h0
 ·subst h0;refine Calls.mono (P:=Tryz.prog) (f:=225) (Any8.slices_Grow_room Tryz.agP none 0 0 0 w zO zO zO zO) ?_;rintro e w' ⟨rfl,rfl⟩;exact⟨_,rfl,ax.nil _ _ _ _ _,j9 _ _⟩
 obtain⟨ht,i,hi,hz,bY,nP,ry,hp,-⟩:=tyC;refine Calls.mono (P:=Tryz.prog) (f:=225) (Any8.slices_Grow_grow Tryz.agP i _ hi hz (by rw[bY];exact hp) none 0 0 n [] w zO zO (by rw[nP];omega) zO zP (λ_=>rfl) (λa h=>by cases h)) ?_;rintro e w' ⟨rfl,rfl⟩;have hG:=grownCap_ge w (0+n) 0 (Tryz.LG.t 25);have hm:=grownCap_le_maxLen w (0+n) 0 (Tryz.LG.t 25) (by unfold maxLen;omega);refine⟨_,rfl,⟨zP,.inr ⟨w,_,_,rfl,zR _,World.alloc_heap_new w.drew _,Nat.zero_le _,hm,?_,zP⟩⟩,?_⟩
 ·have key:∀G,0+n<=G->0+(0+n - 0)*6+(G - (0+n))*6=G*6:=λG h=>(by omega);simp only[Array.size_append,size_zeroCells,ry,YV,z24];exact key _ hG
 exact(show Bw w w.drew from ⟨rfl,rfl,rfl,zR _,λ_ _=>rfl⟩).alloc zP _
theorem aip(ex ar:List aT)(A1:Option Addr)(n1 c1:Nat)(A2:Option Addr)(n2 c2:Nat)(g:Nat)(w:World)(F:Nat->Prop)(h1:jO w F ex A1 n1)(h2:jO w F ar A2 n2)(hF:∀q,F q->q<w.heap.size)(hg:w.heap[g]?=Zc #[(A1,n1,c1),(A2,n2,c2)] 24)(hn:n1+n2<1000000):
 Cl 192 #[(g,0,2,2)] w λe w'=>∃v,∃xs:List (rE 6),e= .returned v/\ax w' w 26 6 cN xs v/\xs.length=ex.length+ar.length/\(∀(i:Nat) c x,(ex++ar)[i]?=some c->xs[i]?=some x->dA w F c x.1)/\Bw w w':=by
 obtain⟨xs,x1,x2,x3,x4⟩:=Yc h1;obtain⟨ys,y1,y2,y3,y4⟩:=Yc h2;have qw:=h1.1;have lW:=h2.1;have q0:=dw hg
 have UI:∀W,(Instr.indexAt 258 (g,0,2,2) (0:Int)).run Tryz.prog W= .ok (g,0) W:=λW=>by
  have e:=dN (P:=Tryz.prog) 258 24 1 Tryz.underlying258 (λw=>by kernel_rfl) (rfl:(g:Option Addr)=g) 2 2 0 zD W;exact e
 have hi1:∀W,(Instr.indexAt 258 (g,0,2,2) (1:Int)).run Tryz.prog W= .ok (g,1) W:=λW=>by
  have e:=dN (P:=Tryz.prog) 258 24 1 Tryz.underlying258 (λw=>by kernel_rfl) (rfl:(g:Option Addr)=g) 2 2 1 zD W;exact e
 have bI:IntKind.i64.wrap ((n1:Int))=(n1:Int):=(by rw[IntKind.wrap_i64];omega)
 have Su:∀(i:Nat) (c:aT) (x:rE 6),(ex++ar)[i]?=c->(xs++ys)[i]?=x->dA w F c x.1:=λi c x hc hx=>by
  rw[List.getElem?_append] at hc hx;by_cases hi:i<ex.length
  ·rw[j6 hi] at hc;rw[j6 zO] at hx;exact x2 i c x hc hx
  rw[j5 hi] at hc;rw[j5 zO] at hx;have e1:i - xs.length=i - ex.length:=(by omega);rw[e1] at hx;exact y2 _ c x hc hx
 have ah4:=zH Su;have HX:=zH x3;have HY:=zH y3;have Pq:=zH x1;have HY1:=zH y1;have HL1:=zH qw;have JA:=zH lW;have HXB:Hid (∀b off,A1=some ⟨b,off,none⟩->0<n1->b<w.heap.size):=zH λb off e h=>hF _ (x4 b off e h);have HYB:Hid (∀b off,A2=some ⟨b,off,none⟩->0<n2->b<w.heap.size):=zH λb off e h=>hF _ (y4 b off e h);have HG:=zH hg;clear Su x3 y3 x1 y1 qw lW x2 y2 x4 y4 h1 h2 hF hg;go_enter Tryz.func192,Tryz.ntmps192;go_wp2_with fail
 go_loopw [11,3] (λUQ s3 W=>W=w/\((UQ= (0:Int)/\s3= (0:Int))\/(UQ= (1:Int)/\s3= n1)\/(UQ= (2:Int)/\s3= ((n1+n2:Nat):Int))))
  (λUQ _ _=>2 - (intOf UQ).toNat)
 case atStart=>exact⟨rfl,.inl ⟨rfl,rfl⟩⟩
 obtain⟨hW,aiq⟩:=hrel;subst hW
 rcases aiq with ⟨rfl,rfl⟩ | ⟨rfl,rfl⟩ | ⟨rfl,rfl⟩
 ·have gJ:decide ((n1:Int)<0)=false:=decide_eq_false zO;go_wp2_with fail;go_roundw
  case rel=>exact⟨by first | rfl | trivial,.inr (.inl ⟨rfl,by go_num⟩)⟩
  simp[intOf]
 ·have gJ:decide ((n1:Int)+(n2:Int)<0)=false:=decide_eq_false zO;go_wp2_with fail;go_roundw
  case rel=>exact⟨by first | rfl | trivial,.inr (.inr ⟨rfl,by go_num⟩)⟩
  simp[intOf]
 obtain⟨wo,X3⟩:=zE wr;subst X3;have JQ:=zH (an6 (n1+n2) hn wo)
 go_wp2_with (go_at_call 225;refine JQ.mono ?_;rintro e w2 ⟨v2,rfl,rO,ag⟩;have DZ:=zH rO;have DU:=zH ag;clear rO ag)
 go_loopw [27,6] (λs27 s6 W=>∃zs:List (rE 6),ax W wo 26 6 cN zs s6/\Bw wo W/\((s27= (0:Int)/\zs=[])\/(s27= (1:Int)/\zs=xs)\/(s27= (2:Int)/\zs=xs++ys)))
  (λs27 _ _=>2 - (intOf s27).toNat)
 case atStart=>exact⟨_,DZ,DU,.inl ⟨rfl,rfl⟩⟩
 obtain⟨zs,dV,mr,aiq⟩:=hrel;clear q0;have q0:=dw (ae HG mr)
 rcases aiq with ⟨rfl,hz⟩ | ⟨rfl,hz⟩ | ⟨rfl,hz⟩<;>rw[hz] at dV<;>clear hz
 ·have hs:=HX.aqA mr HXB;have FO:=zH mr;clear mr
  go_wp2_with (at_builtin;refine Am rfl (.tmp 31) (.tmp 32) 24 rfl tyC ajp wo [] xs _ rfl dV A1 n1 c1 rfl hs Pq.symm (by simp;omega) FO.size ?_;intro v1 u1 uz ai)
  go_roundw
  case rel=>exact⟨xs,by simpa using uz,FO.trans ai,.inr (.inl ⟨rfl,rfl⟩)⟩
  simp[intOf]
 ·have hs:=HY.aqA mr HYB;have FO:=zH mr;clear mr
  go_wp2_with (at_builtin;refine Am rfl (.tmp 31) (.tmp 32) 24 rfl tyC ajp wo xs ys _ rfl dV A2 n2 c2 rfl hs HY1.symm (by rw[Pq.out];omega) FO.size ?_;intro v1 u1 uz ai)
  go_roundw
  case rel=>exact⟨xs++ys,uz,FO.trans ai,.inr (.inr ⟨rfl,rfl⟩)⟩
  simp[intOf]
 obtain⟨A3,c3,rfl⟩:=dV.form;go_wp2_with fail;go_ret;exact⟨_,xs++ys,rfl,dV,by rw[z5,Pq.out,HY1.out,HL1.out,JA.out],ah4,mr⟩
