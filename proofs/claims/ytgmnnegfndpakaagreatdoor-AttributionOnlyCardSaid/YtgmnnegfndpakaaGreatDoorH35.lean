import Derived.Test.YtgmnnegfndpakaaGreatDoorH33
import Derived.Laws.MakeOwn
import Derived.Laws.OwnMore
import Derived.OwnWalk
set_option maxHeartbeats 20000000
set_option maxRecDepth 100000
namespace Go.Proofs.YtgmnnegfndpakaaGreatDoor
open Go.RowKit Go.Proofs.Tryz
variable{α:Type}{elems:List (List Nm)}{w W W':World}{base n g i x sz ns k:Nat}{sets:List (List Nat)}{m:eQ}{s:List Nat}{f:Int->Int}{Q:Exit->Act->World->Prop}{a:Act}{A:Option Addr}{mark:List Nat->Bool}{nums r:List Int}{hs ht:List Hdr}{vS vT:Value}{t:Int}{cells:α->List Value}{l:List α}
theorem aoa{c:aT}(h:jF c=0):kC c<=100:=(QD h).1
mutual
theorem agT(n:Int):∀(p:aJ) (top:Bool),bT n top p=true->Gv p<=100*dh p
 | .mk k mn mx el c pr args,top,hf=>by
   rw[Gv,dh];rw[bT] at hf;by_cases h1:k=1
   ·rw[j6 h1] at hf;simp only[z7,gy] at hf;have:args=[]:=g9 hf.2;subst this;subst h1;rw[mF,j5 zD];omega
   by_cases h2:k=2
   ·rw[j5 h1,j6 h2] at hf;simp only[z7,gy] at hf;have:args=[]:=g9 hf.1.1.1.2;have h3:=aoa hf.2;subst this;subst h2;rw[mF,j6 rfl];omega
   rw[j5 h2];by_cases h3:k=3
   ·rw[j5 h1,j5 h2,j6 h3] at hf;simp only[z7,gy] at hf;have:=OM n args hf.2;omega
   by_cases h4:k=4
   ·rw[j5 h1,j5 h2,j5 h3,j6 h4] at hf;simp only[z7,gy] at hf;have:=OM n args hf.2;omega
   by_cases h5:k=5
   ·rw[j5 h1,j5 h2,j5 h3,j5 h4,j6 h5] at hf;simp only[z7,gy] at hf;have:=OM n args hf.1.2;omega
   rw[j5 h1,j5 h2,j5 h3,j5 h4,j5 h5] at hf;cases hf
theorem OM(n:Int):∀l:List aJ,jZ n l=true->mF l<=100*dZ l
 | [],_=>by rw[mF];omega
 | p::l,h=>by
   rw[jZ] at h;simp only[z7] at h;rw[mF,dZ];have h1:=agT n p false h.1.2;have h2:=OM n l h.2;omega
end
theorem arM(l:List (List α))(b:Nat)(h:∀x∈l,x.length<=b):l.flatten.length<=l.length*b:=by
 induction l with
 | nil=>simp
 | cons x l ih=>
   rw[List.flatten_cons,z5,z9,Nat.add_mul,Nat.one_mul,Nat.add_comm];exact Nat.add_le_add (ih λy hy=>h y (by simp[hy])) (h x zP)
theorem VW{p:aJ}(h:kN elems p=0):elems.flatten.length<=6000/\Gv p<=4000:=by
 obtain⟨h1,h2,h3,-,h5,-⟩:=J5 h;have hn:=af6 h3;refine⟨?_,by have:=agT _ p true h5;omega⟩;refine zT (arM elems 100 λx hx=>?_) zO
 have h4:∀y∈elems,badL y=false:=by
  intro y hy
  cases hb:badL y with
  | false=>rfl
  | true=>
    have:elems.any badL=true:=Qc.2 ⟨y,hy,hb⟩;rw[h2] at this;cases this
 have h6:=h4 x hx;unfold badL at h6;simp only[Bool.or_eq_false_iff,decide_eq_false_iff_not] at h6;omega
theorem Yf{ps:List aJ}{N:Nat}(h:elems.flatten.length+mF ps<=N):(mZ elems ps).names.length<=N/\(mZ elems ps).spaces.length<=N:=by
 have hl:=zQ ps;have h1:=Gw (adC elems ps) [];have h2:=Gz (adD elems ps) [];unfold adC at h1;unfold adD at h2;rw[z5,z24] at h1;rw[z5,z8,z24] at h2;unfold mZ adC adD;exact⟨by show (List.foldl sF [] _).length<=N;omega,by show (List.foldl qy [] _).length<=N;omega⟩
theorem aob{v:Value}(h:w.ownsRow base 3 1 v n (madeCells (Value.int .i64 0).cells (n*1)).toList):ax w base 3 1 qf (List.replicate n (0:Int)) v:=by
 have e:(madeCells (Value.int .i64 0).cells (n*1)).toList=(List.replicate n (0:Int)).flatMap qf:=by
  rw[Nat.mul_one];apply List.ext_getElem?;intro j;have hl:((List.replicate n (0:Int)).flatMap qf).length=n:=(by rw[tX MG,List.length_replicate,Nat.mul_one]);by_cases hj:j<n
  ·have h1:=flat_get MG (List.replicate n (0:Int)) j 0 0 (by rw[List.getElem?_replicate,j6 hj]) zD;rw[Nat.mul_one,Qf] at h1;rw[h1];unfold madeCells;simp[hj,Value.cells,qf,Nat.mod_one]
  rw[JT (by simp[madeCells];omega),JT (by rw[hl];omega)]
 unfold ax;rw[List.length_replicate,<-e];exact h
theorem U4(a:zZ)(ba:Nat)(nA:Option Addr)(nn nc:Nat)(sA:Option Addr)(sn sc:Nat)(w:World)(h:yH w ba a nA nn nc sA sn sc):
 Rt 62 #[(ba,0)] w (a.size:Nat):=by
 obtain⟨h1,h2,h3,h4,h5⟩:=h
 have bY:(a.size:Int)=(nn:Int)+(sn:Int)+1:=by
  unfold zZ.size;rw[<-h2.1,<-h3.1];omega
 have JR:=zH bY;have d0:=dw h1;have bI:IntKind.i64.wrap ((nn:Int)+(sn:Int))=(nn:Int)+(sn:Int):=zS3;have mJ:IntKind.i64.wrap ((nn:Int)+(sn:Int)+1)=(nn:Int)+(sn:Int)+1:=zS3;clear h1 h2 h3 bY;go_enter func62,ntmps62;go_wp2_with fail
 go_quiet (fail)
 go_wp2_with fail;go_ret;exact⟨by rw[JR.out];first | rfl | (congr 2;go_num) | simp,⟨rfl,rfl,rfl,zR _,λ_ _=>rfl⟩⟩
structure uG (W:World) (base:Nat) (hs ht:List Hdr) (vS vT:Value) (sets:List (List Nat)) (rows:List (List Int)):Prop where
 own:ax W base 58 1 zx hs vS
 rS:qg W base aV hs sets
 sO:ax W base 58 1 zx ht vT
 rT:qg W base qf ht rows
 apart:∀q,vS.ownBlock=some q->vT.ownBlock≠some q
 dT:∀(i j:Nat) (x y:Hdr) (q:Nat),i≠j->ht[i]?=x->ht[j]?=y->x.v.ownBlock=q->y.v.ownBlock≠some q
 dS:∀x∈hs,∀y∈ht,∀q,x.v.ownBlock=some q->y.v.ownBlock≠some q
section
variable {W W':World} {base:Nat} {hs ht:List Hdr} {vS vT:Value} {sets:List (List Nat)} {rows:List (List Int)}
theorem uG.keep(h:uG W base hs ht vS vT sets rows)(hb:∀q,base<=q->q<W.heap.size->(vS.ownBlock=some q\/vT.ownBlock=some q\/(∃x∈hs,x.v.ownBlock=some q)\/∃x∈ht,x.v.ownBlock=some q)->W'.heap[q]?=W.heap[q]?):uG W' base hs ht vS vT sets rows where
 own:=h.own.bu λq hq=>hb q (h.own.block_lt hq).1 (h.own.block_lt hq).2 (.inl hq)
 rS:=h.rS.keep λx hx q hq=>hb q (h.rS.lt hx hq).1 (h.rS.lt hx hq).2.1 (.inr (.inr (.inl ⟨x,hx,hq⟩)))
 sO:=h.sO.bu λq hq=>hb q (h.sO.block_lt hq).1 (h.sO.block_lt hq).2 (.inr (.inl hq))
 rT:=h.rT.keep λx hx q hq=>hb q (h.rT.lt hx hq).1 (h.rT.lt hx hq).2.1 (.inr (.inr (.inr ⟨x,hx,hq⟩)))
 apart:=h.apart
 dT:=h.dT
 dS:=h.dS
theorem uG.below(h:uG W base hs ht vS vT sets rows)(hb:Bw W W'):uG W' base hs ht vS vT sets rows:=h.keep λq _ hq _=>hb.block q hq
theorem uG.map{κ β:Type}{enc:κ->Value}{val:β->Value}{l:List (κ×β)}{g:Nat}(h:uG W base hs ht vS vT sets rows)(hg:gQ W g enc val l)(hb:∀q,q≠g->W'.heap[q]?=W.heap[q]?):uG W' base hs ht vS vT sets rows:=
 h.keep λq _ _ hq=>hb q (by
  rcases hq with hq | hq | ⟨x,hx,hq⟩ | ⟨x,hx,hq⟩
  ·obtain⟨cs,h1⟩:=h.own.bC hq;exact tK h1 hg
  ·obtain⟨cs,h1⟩:=h.sO.bC hq;exact tK h1 hg
  ·obtain⟨-,-,cs,h1⟩:=h.rS.lt hx hq;exact tK h1 hg
  obtain⟨-,-,cs,h1⟩:=h.rT.lt hx hq;exact tK h1 hg)
def KT(hs ht:List Hdr)(b:Nat):Prop:=(∀x∈hs,x.v.ownBlock≠some b)/\∀x∈ht,x.v.ownBlock≠some b
theorem uG.row(h:uG W base hs ht vS vT sets rows){b:Nat}{cs:Array Value}(hblk:W.heap[b]?=Zc cs 3)(hd:KT hs ht b)(hb:∀q,q≠b->W'.heap[q]?=W.heap[q]?):uG W' base hs ht vS vT sets rows:=
 h.keep λq _ _ hq=>hb q (by
  rcases hq with hq | hq | ⟨x,hx,hq⟩ | ⟨x,hx,hq⟩
  ·obtain⟨cs,h1⟩:=h.own.bC hq;exact iP h1 hblk zD
  ·obtain⟨cs,h1⟩:=h.sO.bC hq;exact iP h1 hblk zD
  ·intro e;exact hd.1 x hx (e ▸ hq)
  intro e;exact hd.2 x hx (e ▸ hq))
theorem uG.aCK(h:uG W base hs ht vS vT sets rows){x:Hdr}{nx:List Nat}(hx:ax W base 3 1 aV nx x.v)(hxT:∀y∈ht,∀q,x.v.ownBlock=some q->y.v.ownBlock≠some q){Yg:Value}(ho:ax W' base 58 1 zx (hs++[x]) Yg)(hg:W.grownBy W' vS.ownBlock)(hb:Yg.ownBlock=vS.ownBlock\/Yg.ownBlock=W.heap.size):uG W' base (hs++[x]) ht Yg vT (sets++[nx]) rows:=by
 have k1:∀q,q<W.heap.size->vS.ownBlock≠some q->W'.heap[q]?=W.heap[q]?:=λq hq hn=>hg.block q hq (λe=>hn e.symm)
 have nS:∀(y:Hdr),y∈hs->∀q,y.v.ownBlock=some q->vS.ownBlock≠some q:=λy hy q hq e=>by
  obtain⟨-,-,cs,h1⟩:=h.rS.lt hy hq;obtain⟨cs',h2⟩:=h.own.bC e;exact iP h1 h2 zD rfl
 have nT:∀(y:Hdr),y∈ht->∀q,y.v.ownBlock=some q->vS.ownBlock≠some q:=λy hy q hq e=>by
  obtain⟨-,-,cs,h1⟩:=h.rT.lt hy hq;obtain⟨cs',h2⟩:=h.own.bC e;exact iP h1 h2 zD rfl
 have nX:∀q,x.v.ownBlock=some q->vS.ownBlock≠some q:=λq hq e=>by
  obtain⟨cs,h1⟩:=hx.bC hq;obtain⟨cs',h2⟩:=h.own.bC e;exact iP h1 h2 zD rfl
 refine⟨ho,(h.rS.keep λy hy q hq=>k1 q (h.rS.lt hy hq).2.1 (nS y hy q hq)).snoc (hx.bu λq hq=>k1 q (hx.block_lt hq).2 (nX q hq)),h.sO.bu λq hq=>k1 q (h.sO.block_lt hq).2 (λe=>h.apart q e hq),h.rT.keep λy hy q hq=>k1 q (h.rT.lt hy hq).2.1 (nT y hy q hq),λq hq e=>?_,h.dT,λy hy z hz q hq=>?_⟩
 ·rcases hb with hb | hb
  ·exact h.apart q (hb ▸ hq) e
  rw[hb] at hq;have:=(h.sO.block_lt e).2;have:=zI hq;omega
 rcases z12.1 hy with hy | hy
 ·exact h.dS y hy z hz q hq
 rw[og] at hy;subst hy;exact hxT z hz q hq
theorem uG.aCL(h:uG W base hs ht vS vT sets rows){x:Hdr}{r:List Int}(hx:ax W base 3 1 qf r x.v)(hd:∀q,x.v.ownBlock=some q->KT hs ht q){Yh:Value}(ho:ax W' base 58 1 zx (ht++[x]) Yh)(hg:W.grownBy W' vT.ownBlock)(hb:Yh.ownBlock=vT.ownBlock\/Yh.ownBlock=W.heap.size):uG W' base hs (ht++[x]) vS Yh sets (rows++[r]):=by
 have k1:∀q,q<W.heap.size->vT.ownBlock≠some q->W'.heap[q]?=W.heap[q]?:=λq hq hn=>hg.block q hq (λe=>hn e.symm)
 have nS:∀(y:Hdr),y∈hs->∀q,y.v.ownBlock=some q->vT.ownBlock≠some q:=λy hy q hq e=>by
  obtain⟨-,-,cs,h1⟩:=h.rS.lt hy hq;obtain⟨cs',h2⟩:=h.sO.bC e;exact iP h1 h2 zD rfl
 have nT:∀(y:Hdr),y∈ht->∀q,y.v.ownBlock=some q->vT.ownBlock≠some q:=λy hy q hq e=>by
  obtain⟨-,-,cs,h1⟩:=h.rT.lt hy hq;obtain⟨cs',h2⟩:=h.sO.bC e;exact iP h1 h2 zD rfl
 have nX:∀q,x.v.ownBlock=some q->vT.ownBlock≠some q:=λq hq e=>by
  obtain⟨cs,h1⟩:=hx.bC hq;obtain⟨cs',h2⟩:=h.sO.bC e;exact iP h1 h2 zD rfl
 refine⟨h.own.bu λq hq=>k1 q (h.own.block_lt hq).2 (h.apart q hq),h.rS.keep λy hy q hq=>k1 q (h.rS.lt hy hq).2.1 (nS y hy q hq),ho,(h.rT.keep λy hy q hq=>k1 q (h.rT.lt hy hq).2.1 (nT y hy q hq)).snoc (hx.bu λq hq=>k1 q (hx.block_lt hq).2 (nX q hq)),λq hq e=>?_,λi j a b q Fz ha rX hq=>?_,λy hy z hz q hq=>?_⟩
 ·rcases hb with hb | hb
  ·exact h.apart q hq (hb ▸ e)
  rw[hb] at e;have:=(h.own.block_lt hq).2;have:=zI e;omega
 ·have last:∀(i:Nat) (a:Hdr),(ht++[x])[i]?=a->(i<ht.length/\ht[i]?=a)\/(i=ht.length/\a=x):=λi a ha=>by
   rw[List.getElem?_append] at ha;by_cases hi:i<ht.length
   ·rw[j6 hi] at ha;exact .inl ⟨hi,ha⟩
   rw[j5 hi] at ha
   have e1:i - ht.length=0:=by
    have:=(z4.1 ha).1;simp at this;omega
   rw[e1] at ha;simp only[List.getElem?_cons_zero,l5] at ha;exact .inr ⟨zO,ha.symm⟩
  rcases last i a ha with ⟨hi,ha'⟩ | ⟨hi,rfl⟩
  ·rcases last j b rX with ⟨hj,aoc⟩ | ⟨hj,rfl⟩
   ·exact h.dT i j a b q Fz ha' aoc hq
   exact λe=>(hd q e).2 a (SK ha') hq
  rcases last j b rX with ⟨hj,aoc⟩ | ⟨hj,rfl⟩
  ·exact(hd q hq).2 b (SK aoc)
  omega
 rcases z12.1 hz with hz | hz
 ·exact h.dS y hy z hz q hq
 rw[og] at hz;subst hz;exact λe=>(hd q e).1 y hy hq
end
def Jr(W:World)(g:Nat)(sets:List (List Nat)):Prop:=∃l,gQ W g lg vM l/\acj l sets
theorem Jr.keep(h:Jr W g sets)(hb:W'.heap[g]?=W.heap[g]?):Jr W' g sets:=by
 obtain⟨l,h1,h2⟩:=h;exact⟨l,h1.keep hb,h2⟩
theorem Jr.lt(h:Jr W g sets):g<W:=by
 obtain⟨l,h1,h2⟩:=h;exact h1.lt
def Tf(m:eQ)(sets:List (List Nat)):Prop:=∀s∈sets,(∀x∈s,jv m x)/\s.length<=4297
theorem Tf.snoc(h:Tf m sets){nx:List Nat}(h1:∀x∈nx,jv m x)(h2:nx.length<=4297):Tf m (sets++[nx]):=λs hs=>by
 rcases z12.1 hs with hs | hs
 ·exact h s hs
 rw[og] at hs;subst hs;exact⟨h1,h2⟩
theorem jv.key(fQ:mQ m){s:Nat}(h:jv m s):s<65536:=by
 have:=h.lt;have:=EO fQ;omega
theorem Js{f:Act->World->Prop}(h:Q Exit.ret a w):Exit.then f Q Exit.ret a w:=h
theorem LH(h:Q Exit.ret a w):Exit.inBlock i Q Exit.ret a w:=h
theorem Ti{ops:Array Oper}{rest:List Oper}{o:Oper}(hg:o.guard=none)(l c:Operand)(uQ:o.op=Op.makeSlice 58 l c)
 (base:Nat) (n:Nat) (hl:a.eval l= n) (hc:a.eval c= n) (hn:n<=1000000) (hb:base<=w)
 (hK:∀w',ax w' base 3 1 qf (List.replicate n (0:Int)) (w,0,n,n)->Bw w w'->w.heap.size<w'.heap.size->wpList prog ops Q rest (a.put o.dst (w,0,n,n)) w'):wpList prog ops Q (o::rest) a w:=by
 obtain⟨ht,i,hi,hz,bY,nP,ry,h0,-⟩:=tyI;refine wpList_make_full w hg l c 58 uQ base 3 i _ 1 ht hi hz bY .i64 .i64 _ _ n hl hc rfl rfl (by rw[nP];omega) (by unfold maxLen;omega) hb λw' h1 h2=>?_;have ho:=aob h1;refine hK w' ho ⟨h2.os,h2.tape,h2.output,h2.size,λk hk=>h2.block k hk (λe=>by cases e)⟩ ?_;exact(ho.block_lt rfl).2
theorem Jr.alF(h:Jr W g sets){x:List Nat}(hx:∀s∈x,s<65536){j:Nat}(hj:qR x sets 0=j):
 (Instr.lookup 126 (.map (some g)) (fH x) true).run prog W= .ok (.tuple #[j,true]) W:=by
 obtain⟨l,h1,h2⟩:=h;have e:=qX (P:=prog) (zv:=(0:Int)) TL underlying126 (λW=>by kernel_rfl) h1 (fH x) true;rw[h2 x hx,hj] at e;exact e
theorem Jr.FC(h:Jr W g sets){x:List Nat}(hx:∀s∈x,s<65536)(hj:qR x sets 0=none):
 (Instr.lookup 126 (.map (some g)) (fH x) true).run prog W= .ok (.tuple #[(0:Int),false]) W:=by
 obtain⟨l,h1,h2⟩:=h;have e:=qX (P:=prog) (zv:=(0:Int)) TL underlying126 (λW=>by kernel_rfl) h1 (fH x) true;rw[h2 x hx,hj] at e;exact e
theorem aY.wide{F F':Nat->Prop}(h:aY w F sz cells l A n)(hF:∀k,F k->F' k):aY w F' sz cells l A n:=by
 refine⟨h.1,λhp=>?_⟩;obtain⟨b,off,h1,h2,h3⟩:=h.2 hp;exact⟨b,off,h1,hF _ h2,h3⟩
structure Hg (w6 W:World) (g:Nat) (m:eQ) (hs ht:List Hdr) (vS vT:Value) (sets:List (List Nat)) (rows:List (List Int)):Prop where
 I:uG W w6 hs ht vS vT sets rows
 K:Jr W g sets
 O:Tf m sets
 L:sets.length<=1000
 kept:Kept (λq=>w6<=q) w6 W
section
variable {w6 W W':World} {g:Nat} {m:eQ} {hs ht:List Hdr} {vS vT:Value} {sets:List (List Nat)} {rows:List (List Int)}
theorem Hg.below(h:Hg w6 W g m hs ht vS vT sets rows)(hb:Bw W W'):Hg w6 W' g m hs ht vS vT sets rows:=
 ⟨h.I.below hb,h.K.keep (hb.block g h.K.lt),h.O,h.L,h.kept.trans (Qh hb)⟩
theorem Hg.old(h:Hg w6 W g m hs ht vS vT sets rows):Bw w6 W:=h.kept.below (zR _) (λk hk h=>by omega)
theorem Hg.alG(h:Hg w6 W g m hs ht vS vT sets rows):hs.length=sets.length:=h.I.rS.len
theorem Hg.set(h:Hg w6 W g m hs ht vS vT sets rows){k:Nat}{s:List Nat}(hk:sets[k]?=s):∃x:Hdr,hs[k]?=x/\ax W w6 3 1 aV s x.v/\x.n=s.length/\(∀y∈s,jv m y)/\s.length<=4297:=by
 have hl:k<hs.length:=(by rw[h.alG];exact(z4.1 hk).1);have hx:hs[k]?=hs[k]:=z6 hl;have ho:=h.I.rS.row k s _ hk hx;obtain⟨h1,h2⟩:=h.O s (SK hk);obtain⟨A,c,e⟩:=ho.form;refine⟨_,hx,ho,?_,h1,h2⟩;have e':Value.slice hs[k].A hs[k].n hs[k].c= (A,s.length,c):=e;exact(z19 e').2.1
theorem Hg.get{A:Option Addr}{n c:Nat}(h:Hg w6 W g m hs ht (A,n,c) vT sets rows){k:Nat}{s:List Nat}(hk:sets[k]?=s)(BL:k<n)(hn:hs.length=n):
 ∃b off hA hn hc,W.cell? ⟨b,off+k,none⟩=some (.slice hA hn hc)/\(∀V,(Instr.indexAt 49 (A,n,c) k).run prog V= .ok (.pointer (some ⟨b,off+k,none⟩)) V)/\aY W (· <W) 1 aV s hA hn/\hn<=1000000/\(∀y∈s,jv m y)/\b<W.heap.size:=by
 obtain⟨A',c',ev,aI,-,-⟩:=h.I.own.row YS zD;rw[hn] at ev aI;obtain⟨rfl,-,rfl⟩:=z19 ev;obtain⟨b,off,x,HX,p0,dO⟩:=aI.hdr BL c;have ho:=h.I.rS.row k s x hk HX;obtain⟨h1,h2⟩:=h.O s (SK hk);obtain⟨xA,xn,xc⟩:=x;obtain⟨A2,c2,ev2,DR,-,-⟩:=ho.row jd zD;obtain⟨rfl,rfl,rfl⟩:=z19 (show Value.slice xA xn xc=_ from ev2);exact⟨b,off,xA,s.length,xc,p0,dO,DR.wide (λ_ h=>h.2),zO,h1,block_lt_of_cell p0⟩
end
structure MO (w6 W:World) (g:Nat) (m:eQ) (hs ht:List Hdr) (vS vT:Value) (sets:List (List Nat)) (rows:List (List Int)) (rb K:Nat) (row:List Int):Prop where
 S:Hg w6 W g m hs ht vS vT sets rows
 own:ax W w6 3 1 qf (row++List.replicate (K - row.length) (0:Int)) (rb,0,K,K)
 KU:KT hs ht rb
 len:row.length<=K
section
variable {w6 W W':World} {g:Nat} {m:eQ} {hs ht:List Hdr} {vS vT:Value} {sets:List (List Nat)} {rows:List (List Int)} {rb K:Nat} {row:List Int}
theorem MO.below(h:MO w6 W g m hs ht vS vT sets rows rb K row)(hb:Bw W W'):MO w6 W' g m hs ht vS vT sets rows rb K row:=
 ⟨h.S.below hb,h.own.keep hb,h.KU,h.len⟩
theorem Hg.newRow(h:Hg w6 W g m hs ht vS vT sets rows)(hb:Bw W W'){K:Nat}(ho:ax W' w6 3 1 qf (List.replicate K (0:Int)) (W,0,K,K)):MO w6 W' g m hs ht vS vT sets rows W K []:=by
 refine⟨h.below hb,by rw[d6,z24,Nat.sub_zero];exact ho,⟨λx hx e=>?_,λx hx e=>?_⟩,Nat.zero_le _⟩
 ·have:=(h.I.rS.lt hx e).2.1;omega
 have:=(h.I.rT.lt hx e).2.1;omega
theorem set_mid(row:List Int){n:Nat}(hn:0<n)(v:Int):(row++List.replicate n (0:Int)).set row.length v=row++[v]++List.replicate (n - 1) (0:Int):=by
 obtain⟨k,rfl⟩:∃k,n=k+1:=⟨n - 1,zO⟩;rw[List.replicate_succ,List.set_append,j5 zO,Nat.sub_self,List.set_cons_zero,d7];rfl
theorem MO.store{x:Nat}(h:MO w6 W g m hs ht vS vT sets rows rb K row)(hx:row.length=x)(hK:x<K)(v:Int):
 W.frozen? (rb,x)=false/\(∃u,W.cell? (rb,x)=some u)/\(∀V,(Instr.indexAt 58 (rb,0,K,K) x).run prog V= .ok (rb,x) V)/\
  MO w6 (W.setCell (rb,x) v) g m hs ht vS vT sets rows rb K (row++[v]):=by
 subst hx;have hl:(row++List.replicate (K - row.length) (0:Int)).length=K:=(by rw[z5,List.length_replicate];omega);obtain⟨gb,cap,e,lV,qo,hob,XR,eH,dO,ho⟩:=h.own.setInt (i:=row.length) (by rw[hl];exact hK) v;rw[hl] at e;obtain⟨e1,-,e3⟩:=z19 e;have eg:rb=gb:=(Addr.mk.inj (zI e1)).1;subst eg;subst e3;obtain⟨cs,hblk⟩:=h.own.bC (k:=rb) rfl;have far:∀q,q≠rb->(W.setCell (rb,row.length) v).heap[q]?=W.heap[q]?:=λq hq=>b7 _ _ _ _ hq;refine⟨XR,eH,dO,⟨⟨h.S.I.row hblk h.KU far,h.S.K.keep (far g ?_),h.S.O,h.S.L,h.S.kept.setCell (.inl lV) _⟩,?_,h.KU,by rw[z5,TQ];omega⟩⟩
 ·obtain⟨l,hk,-⟩:=h.S.K;exact λe=>tK hblk hk e.symm
 rw[z5,TQ,show K - (row.length+1)=K - row.length - 1 by omega,<-set_mid row zO];exact ho
theorem MO.add(h:MO w6 W g m hs ht vS vT sets rows rb K row){nx:List Nat}(oO:∀s∈nx,jv m s)(hlen:nx.length<=4297)(fQ:mQ m)(YL:qR nx sets 0=none)(hL:sets.length<1000){x:Hdr}{B:Nat}(hB:W<=B){W1 W2 W3 W4:World}
 (hx:ax W1 B 3 1 aV nx x.v) (ai:Bw W W1) {l:List (ByteArray×Int)} (hl:gQ W1 g lg vM l) (BL:acj l sets) (hp:gQ W2 g lg vM (jh eqS (fH nx) (sets.length:Int) l)) (hp1:∀q,q≠g->W2.heap[q]?=W1.heap[q]?) (_:W2.heap.size=W1) (hp3:Kept (· =g) W1 W2)
 (az:Bw W2 W3) {Yg:Value} (ho:ax W4 w6 58 1 zx (hs++[x]) Yg) (fO:W3.grownBy W4 vS.ownBlock) (jA:Yg.ownBlock=vS.ownBlock\/Yg.ownBlock=W3.heap.size) (hg6:w6<=g):
 MO w6 W4 g m (hs++[x]) ht Yg vT (sets++[nx]) rows rb K row:=by
 have h1:=h.below ai;have hI2:uG W2 w6 hs ht vS vT sets rows:=h1.S.I.map hl hp1;have hI3:=hI2.below az;have h6:w6<=W.heap.size:=h.S.kept.size;have avs:∀{cs:Array Value} {t:TypeId} {q:Nat},W1.heap[q]?=Zc cs t->q≠g:=λhq=>tK hq hl;have FI:ax W2 B 3 1 aV nx x.v:=hx.bu λq hq=>hp1 q (by obtain⟨cs,hc⟩:=hx.bC hq;exact avs hc);have hx3:ax W3 B 3 1 aV nx x.v:=FI.keep az;have DR:ax W2 w6 3 1 qf (row++List.replicate (K - row.length) (0:Int)) (rb,0,K,K):=h1.own.bu λq hq=>hp1 q (by obtain⟨cs,hc⟩:=h1.own.bC hq;exact avs hc);have Ih:=DR.keep az;have TZ:∀q,q<W3.heap.size->vS.ownBlock≠some q->W4.heap[q]?=W3.heap[q]?:=λq hq hn=>fO.block q hq (λe=>hn e.symm)
 have hI4:=hI3.aCK (hx3.low zO) (λy hy q hq e=>by
  have h7:=(hx.block_lt hq).1;have h8:=(h.S.I.rT.lt hy e).2.1
  omega) ho fO jA
 have hg3:gQ W3 g lg vM (jh eqS (fH nx) (sets.length:Int) l):=hp.below az;refine⟨⟨hI4,⟨_,hg3.keep (TZ g hg3.lt λe=>?_),BL.put (λs hs=>jv.key fQ (oO s hs)) YL⟩,h.S.O.snoc oO hlen,by rw[z5,TQ];omega,?_⟩,Ih.bu λq hq=>TZ q (Ih.block_lt hq).2 λe=>?_,⟨λy hy e=>?_,h.KU.2⟩,h.len⟩
 ·obtain⟨cs,hc⟩:=hI3.own.bC e;exact tK hc hg3 rfl
 ·have k2:Kept (λq=>w6<=q) w6 W2:=(h.S.kept.trans (Qh ai)).trans (fE hp3 λq (e:q=g)=>by rw[e];exact hg6);have k3:=k2.trans (Qh az);refine k3.trans ⟨fO.os,fO.tape,fO.output,fO.size,λq hq hn=>TZ q hq λe=>hn ?_⟩;exact(hI3.own.block_lt e).1
 ·obtain⟨cs,hc⟩:=hI3.own.bC e;obtain⟨cs',yu⟩:=Ih.bC hq;exact iP yu hc zD rfl
 rcases z12.1 hy with hy | hy
 ·exact h.KU.1 y hy e
 rw[og] at hy;subst hy;have h7:=(hx.block_lt e).1;have h8:rb<W:=(h.own.block_lt rfl).2;omega
theorem MO.done(h:MO w6 W g m hs ht vS vT sets rows rb K row)(hl:row.length=K){W3 W4:World}(az:Bw W W3){Yh:Value}(ho:ax W4 w6 58 1 zx (ht++[⟨some ⟨rb,0,none⟩,K,K⟩]) Yh)(fO:W3.grownBy W4 vT.ownBlock)(jA:Yh.ownBlock=vT.ownBlock\/Yh.ownBlock=W3.heap.size):
 Hg w6 W4 g m hs (ht++[⟨some ⟨rb,0,none⟩,K,K⟩]) vS Yh sets (rows++[row]):=by
 have h3:=h.below az
 have dV:ax W3 w6 3 1 qf row (Hdr.v ⟨rb,K,K⟩):=by
  have:=h3.own;rw[hl,Nat.sub_self,List.replicate_zero,m8] at this;exact this
 have TZ:∀q,q<W3.heap.size->vT.ownBlock≠some q->W4.heap[q]?=W3.heap[q]?:=λq hq hn=>fO.block q hq (λe=>hn e.symm);refine⟨h3.S.I.aCL dV (λq hq=>?_) ho fO jA,h3.S.K.keep (TZ g h3.S.K.lt λe=>?_),h.S.O,h.S.L,h3.S.kept.trans ⟨fO.os,fO.tape,fO.output,fO.size,λq hq hn=>TZ q hq λe=>hn (h3.S.I.sO.block_lt e).1⟩⟩
 ·have e:rb=q:=(by simpa[Hdr.v,Value.ownBlock] using hq);exact e ▸ h.KU
 obtain⟨cs,hc⟩:=h3.S.I.sO.bC e;obtain⟨l,hk,-⟩:=h3.S.K;exact tK hc hk rfl
end
theorem aiv(h:sets[i]?=s)(n:Int):wR mark (sets.drop i) i n=if i=0\/mark s=true then n::wR mark (sets.drop (i+1)) (i+1) (n+1) else (-1)::wR mark (sets.drop (i+1)) (i+1) n:=by
 obtain⟨hi,rfl⟩:=z4.1 h;rw[nZ hi,wR]
theorem afu{fin:List Nat->Bool}(h:sets[i]?=s):A7 mark fin (sets.drop i) i=if i=0\/mark s=true then fin s::A7 mark fin (sets.drop (i+1)) (i+1) else A7 mark fin (sets.drop (i+1)) (i+1):=by
 obtain⟨hi,rfl⟩:=z4.1 h;rw[nZ hi,A7]
theorem afv{rows:List (List Int)}{l:List Int}{n:Int}(h:rows[i]?=r)(hn:l[i]?=n):uY nums (rows.drop i) (l.drop i)=if n<0 then uY nums (rows.drop (i+1)) (l.drop (i+1)) else r.map (LJ nums)::uY nums (rows.drop (i+1)) (l.drop (i+1)):=by
 obtain⟨hi,rfl⟩:=z4.1 h;obtain⟨DT,rfl⟩:=z4.1 hn;rw[nZ hi,nZ DT,uY];rfl
theorem aiw{rows:List (List Int)}{l:List Int}(h:rows.length<=i):uY nums (rows.drop i) (l.drop i)=[]:=by
 rw[List.drop_of_length_le h,uY]
theorem aep(w:World)(base:Nat)(l:List Bool)(v:Value)(dV:ax w base 4 1 ET l v)(g c:Nat)(b:Bool)(hc:w.cell? g=b)(hlen:l.length<1000000000)(eY:base<=w)(ty:TypeId):
 ∃v' w',(Builtin.append_ #[48,48] ty #[v,(g,0,1,c)]).run prog w= .ok v' w'/\ax w' base 4 1 ET (l++[b]) v'/\w.grownBy w' v.ownBlock/\(v'.ownBlock=v.ownBlock\/v'.ownBlock=some w.heap.size):=by
 obtain⟨ht,i,hi,hz,bY,nP,ry,h0,-⟩:=tyB
 obtain⟨v',w',bG,h2,h3,-,h5⟩:=run_append_own_at (P:=prog) w base 48 ty 4 i _ 1 1 ht hi hz bY nP ry h0 v _ _ dV g 1 c (ET b) rfl (λj u hu=>by
  cases j with
  | zero=>
    obtain rfl:Value.bool b=u:=(by simpa[ET] using hu);simpa[Addr.add] using hc
  | succ j=>simp[ET] at hu) (by intro u hu;simp only[ET,og] at hu;rw[hu];rfl) (by unfold maxLen;omega) zO eY
 refine⟨v',w',bG,?_,h3,h5⟩;unfold ax;rw[z5,l6];simpa using h2
theorem uG.rows{rows rows':List (List Int)}(h:uG W base hs ht vS vT sets rows)(hr:qg W base qf ht rows'):uG W base hs ht vS vT sets rows':=⟨h.own,h.rS,h.sO,hr,h.apart,h.dT,h.dS⟩
theorem uG.aCM{c:Nat}{rows:List (List Int)}(h:uG W base hs ht vS (A,n,c) sets rows)(hr:rows[i]?=r)(hi:i<n)(hn:ht.length=n):
 ∃b off hA hc,ht[i]?=some ⟨hA,r.length,hc⟩/\W.cell? ⟨b,off+i,none⟩=some (.slice hA r.length hc)/\(∀V,(Instr.indexAt 49 (A,n,c) i).run prog V= .ok (.pointer (some ⟨b,off+i,none⟩)) V)/\b<W.heap.size:=by
 obtain⟨A',c',ev,aI,-,-⟩:=h.sO.row YS zD;rw[hn] at ev aI;obtain⟨rfl,-,rfl⟩:=z19 ev;obtain⟨b,off,x,HX,p0,dO⟩:=aI.hdr hi c;have ho:=h.rT.row i r x hr HX;obtain⟨xA,xn,xc⟩:=x;obtain⟨A2,c2,e2⟩:=ho.form;obtain⟨-,rfl,-⟩:=z19 (show Value.slice xA xn xc=_ from e2);exact⟨b,off,xA,xc,HX,p0,dO,block_lt_of_cell p0⟩
theorem aY.avt(h:aY W (· <W) sz cells l A n){cs:Array Value}{t:TypeId}(hg:W.heap[g]?=Zc cs t)(dD:∀x∈l,∃u,(cells x)[0]?=some u/\∀v∈cs.toList,v≠u)(hb:∀q,q≠g->W'.heap[q]?=W.heap[q]?)(hs:W.heap.size<=W'):aY W' (· <W') sz cells l A n:=by
 refine⟨h.1,λhp=>?_⟩;obtain⟨b,off,hA,rX,hc⟩:=h.2 hp;have hx:l[0]?=l[0]'hp:=z6 hp;obtain⟨u,hu,hv⟩:=dD _ (SK hx)
 have hbg:b≠g:=λe=>by
  have h1:=hc 0 _ hx 0 u hu;rw[e,Ys W g _ _ _ _ hg] at h1;exact hv u (by simpa using Array.mem_of_getElem? h1) rfl
 refine⟨b,off,hA,d4 rX hs,λi x hx j v hv=>?_⟩;rw[ZS (w:=W) (hb b hbg)];exact hc i x hx j v hv
theorem uG.aCN{c:Nat}{rows:List (List Int)}(h:uG W base hs ht (A,n,c) vT sets rows)(hk:sets[i]?=s)(hi:i<n)(hn:hs.length=n)(Af:s.length=ns):
 ∃b off hA hc,hs[i]?=some ⟨hA,ns,hc⟩/\W.cell? ⟨b,off+i,none⟩=some (.slice hA ns hc)/\(∀V,(Instr.indexAt 49 (A,n,c) i).run prog V= .ok (.pointer (some ⟨b,off+i,none⟩)) V)/\aY W (· <W) 1 aV s hA ns/\b<W.heap.size:=by
 subst Af;obtain⟨A',c',ev,aI,-,-⟩:=h.own.row YS zD;rw[hn] at ev aI;obtain⟨rfl,-,rfl⟩:=z19 ev;obtain⟨b,off,x,HX,p0,dO⟩:=aI.hdr hi c;have ho:=h.rS.row i s x hk HX;obtain⟨xA,xn,xc⟩:=x;obtain⟨A2,c2,ev2,DR,-,-⟩:=ho.row jd zD;obtain⟨rfl,rfl,rfl⟩:=z19 (show Value.slice xA xn xc=_ from ev2);exact⟨b,off,xA,xc,HX,p0,dO,DR.wide (λ_ h=>h.2),block_lt_of_cell p0⟩
theorem uG.aod{rows:List (List Int)}(h:uG W base hs ht vS vT sets rows)(hk:sets[i]?=s){hA:Option Addr}{hc:Nat}(hx:hs[i]?=some ⟨hA,ns,hc⟩):aY W (· <W) 1 aV s hA ns:=by
 have ho:=h.rS.row i s _ hk hx;obtain⟨A2,c2,ev2,DR,-,-⟩:=ho.row jd zD;obtain⟨rfl,rfl,rfl⟩:=z19 (show Value.slice hA ns hc=_ from ev2);exact DR.wide (λ_ h=>h.2)
theorem avu(hl:nums.length=i)(hi:i<k)(v:Int):(nums++List.replicate (k - i) (0:Int)).set i v=(nums++[v])++List.replicate (k - (i+1)) (0:Int):=by
 subst hl;rw[set_mid nums zO,show k - nums.length - 1=k - (nums.length+1) by omega]
theorem aqG(hl:nums.length=i)(hi:i<k)(u v:Int):((nums++List.replicate (k - i) (0:Int)).set i u).set i v=(nums++[v])++List.replicate (k - (i+1)) (0:Int):=by
 rw[List.set_set,avu hl hi]
theorem aoe{x:α}(h:l[i]?=x):l.set i x=l:=by
 apply List.ext_getElem?;intro j;by_cases hj:i=j
 ·subst hj;rw[List.getElem?_set_self (z4.1 h).1,h]
 rw[List.getElem?_set_ne hj]
def BF(f:Int->Int)(r:List Int)(x:Nat):List Int:=(r.map f).take x++r.drop x
theorem alI(f:Int->Int)(r:List Int):BF f r 0=r:=by simp[BF]
theorem aof(f:Int->Int)(r:List Int)(h:r.length<=x):BF f r x=r.map f:=by
 unfold BF;rw[l8 (by rw[z8];exact h),List.drop_of_length_le h,m8]
theorem aog(f:Int->Int)(r:List Int)(h:x<=r.length):(BF f r x).length=r.length:=by
 unfold BF;rw[z5,Ju,z8,List.length_drop];omega
theorem VY(h:r[x]?=t):(BF f r x)[x]?=t:=by
 have hx:=(z4.1 h).1;have hl:((r.map f).take x).length=x:=(by rw[Ju,z8];omega);unfold BF;rw[z21 zO,hl,Nat.sub_self,List.getElem?_drop,Qf];exact h
theorem aeq(h:r[x]?=t):(BF f r x).set x (f t)=BF f r (x+1):=by
 obtain⟨hx,rfl⟩:=z4.1 h;have hl:((r.map f).take x).length=x:=(by rw[Ju,z8];omega);unfold BF;rw[List.set_append,j5 zO,hl,Nat.sub_self,nZ hx,List.set_cons_zero,List.take_add_one,z17,z6 hx,Option.map_some,Option.toList_some,d7];rfl
theorem alJ(h:r[x]?=t)(hf:f t=t):BF f r x=BF f r (x+1):=by
 rw[<-aeq h,hf];apply List.ext_getElem?;intro j;by_cases hj:x=j
 ·subst hj;rw[List.getElem?_set_self (z4.1 (VY h)).1,VY h]
 rw[List.getElem?_set_ne hj]
theorem OO.lt{jD:List Nat->Nat->List Nat}{K:Nat}{rows:List (List Int)}(h:OO jD K sets rows)(hr:rows[i]?=r)(hx:r[x]?=t):t<(sets.length:Int)/\-1<=t:=by
 obtain⟨h1,s,h2,h3⟩:=h.row i r hr;have FD:=(z4.1 hx).1;obtain⟨v,hv,hc⟩:=h3 x zO;obtain rfl:t=v:=zI (hx.symm.trans hv)
 rcases hc with ⟨-,rfl⟩ | ⟨-,j,hj,rfl⟩
 ·omega
 have:=(z4.1 hj).1;omega
structure zC (w6 W:World) (ob nb n:Nat) (hs ht:List Hdr) (vS vT nv sv vF vO:Value) (sets:List (List Nat)) (rows:List (List Int)) (nums:List Int) (fl:List Bool) (ho:List Hdr):Prop where
 I:uG W w6 hs ht vS vT sets rows
 num:ax W w6 3 1 qf nums (nb,0,n,n)
 KU:KT hs ht nb
 obk:W.heap[ob]?=Zc #[nv,sv,vF,vO] 51
 fin:ax W w6 4 1 ET fl vF
 ou:ax W w6 58 1 zx ho vO
 apO:∀q,vO.ownBlock=some q->vS.ownBlock≠some q/\vT.ownBlock≠some q
 kept:Kept (λq=>w6.heap.size<=q) w6 W
 hob:w6<=ob
section
variable {w6 W W':World} {ob nb n:Nat} {hs ht:List Hdr} {vS vT nv sv vF vO:Value} {sets:List (List Nat)} {rows:List (List Int)} {nums:List Int} {fl:List Bool} {ho:List Hdr}
theorem zC.below(h:zC w6 W ob nb n hs ht vS vT nv sv vF vO sets rows nums fl ho)(hb:Bw W W'):zC w6 W' ob nb n hs ht vS vT nv sv vF vO sets rows nums fl ho:=
 ⟨h.I.below hb,h.num.keep hb,h.KU,ae h.obk hb,h.fin.keep hb,h.ou.keep hb,h.apO,h.kept.trans (Qh hb),h.hob⟩
theorem zC.old(h:zC w6 W ob nb n hs ht vS vT nv sv vF vO sets rows nums fl ho):Bw w6 W:=h.kept.below (zR _) (λk hk h=>by omega)
theorem Hg.a2K{g:Nat}{m:eQ}(h:Hg w6 W g m hs ht vS vT sets rows){W2 W3:World}(hb:Bw W W2)(hn:ax W2 w6 3 1 qf (List.replicate n (0:Int)) (W,0,n,n))(ag:Bw W2 W3)(hob:W2<=ob)(ho:W3.heap[ob]?=Zc #[nv,sv,(),()] 51):
 zC w6 W3 ob W n hs ht vS vT nv sv () () sets rows (List.replicate n (0:Int)) [] []:=by
 have h6:w6<=W.heap.size:=h.kept.size;refine⟨(h.I.below hb).below ag,hn.keep ag,⟨λx hx e=>?_,λx hx e=>?_⟩,ho,ax.nil _ _ _ _ _,ax.nil _ _ _ _ _,λq hq=>by simp[Value.ownBlock] at hq,(h.kept.trans (Qh hb)).trans (Qh ag),by have:=hb.size;omega⟩
 ·have:=(h.I.rS.lt hx e).2.1;omega
 have:=(h.I.rT.lt hx e).2.1;omega
theorem zC.aes(h:zC w6 W ob nb n hs ht vS vT nv sv vF vO sets rows nums fl ho){i:Nat}(hl:nums.length=n)(hi:i<n)(v:Int):
 W.frozen? (nb,i)=false/\(∃u,W.cell? (nb,i)=some u)/\(∀V,(Instr.indexAt 58 (nb,0,n,n) i).run prog V= .ok (nb,i) V)/\
  zC w6 (W.setCell (nb,i) v) ob nb n hs ht vS vT nv sv vF vO sets rows (nums.set i v) fl ho:=by
 obtain⟨gb,cap,e,lV,qo,hob,XR,eH,dO,yR⟩:=h.num.setInt (i:=i) zO v;rw[hl] at e;obtain⟨e1,-,e3⟩:=z19 e;have eg:nb=gb:=(Addr.mk.inj (zI e1)).1;subst eg;subst e3;obtain⟨cs,hblk⟩:=h.num.bC (k:=nb) rfl;have far:∀q,q≠nb->(W.setCell (nb,i) v).heap[q]?=W.heap[q]?:=λq hq=>b7 _ _ _ _ hq;refine⟨XR,eH,dO,⟨h.I.row hblk h.KU far,yR,h.KU,(far ob ?_).trans h.obk,h.fin.bu λq hq=>far q ?_,h.ou.bu λq hq=>far q ?_,h.apO,h.kept.setCell (.inl lV) _,h.hob⟩⟩
 ·exact iP h.obk hblk zD
 ·obtain⟨cs',hc⟩:=h.fin.bC hq;exact iP hc hblk zD
 obtain⟨cs',hc⟩:=h.ou.bC hq;exact iP hc hblk zD
theorem zC.alK(h:zC w6 W ob nb n hs ht vS vT nv sv vF vO sets rows nums fl ho){i:Nat}{v:Int}(hv:nums[i]?=v)(hl:nums.length=n):W.cell? (nb,i)=v/\(∀V,(Instr.indexAt 58 (nb,0,n,n) i).run prog V= .ok (nb,i) V):=by
 have hi:i<n:=(by rw[<-hl];exact(z4.1 hv).1);obtain⟨A',c',ev,aI,-,-⟩:=h.num.row MG zD;rw[hl] at ev aI;obtain⟨rfl,-,rfl⟩:=z19 ev;obtain⟨b,off,e1,-,hc⟩:=aI.2 zO;obtain⟨rfl,rfl,-⟩:=Addr.mk.inj (zI e1);have h1:=hc i v hv 0 _ rfl;rw[Nat.mul_one,Qf,d9] at h1;refine⟨h1,λV=>?_⟩;have e:=dN (P:=prog) 58 3 1 underlying58 (λw=>by kernel_rfl) (rfl:(nb:Option Addr)=nb) n n i hi V;rw[Nat.mul_one,d9] at e;exact e
theorem zC.tZ(h:zC w6 W ob nb n hs ht vS vT nv sv vF vO sets rows nums fl ho){b:Bool}{vF':Value}(yR:ax W' w6 4 1 ET (fl++[b]) vF')(fO:W.grownBy W' vF.ownBlock):
 zC w6 (W'.setCell (ob,2) vF') ob nb n hs ht vS vT nv sv vF' vO sets rows nums (fl++[b]) ho:=by
 have k1:∀q,q<W.heap.size->vF.ownBlock≠some q->W'.heap[q]?=W.heap[q]?:=λq hq hn=>fO.block q hq (λe=>hn e.symm)
 have nF:∀{q:Nat} {cs:Array Value} {t:TypeId},W.heap[q]?=Zc cs t->t≠4->vF.ownBlock≠some q:=λhq ht e=>by
  obtain⟨cs',hc⟩:=h.fin.bC e;exact iP hq hc ht rfl
 have aet:W'.heap[ob]?=Zc #[nv,sv,vF,vO] 51:=(k1 ob (aC h.obk) (nF h.obk zD)).trans h.obk;have far:∀q,q≠ob->(W'.setCell (ob,2) vF').heap[q]?=W'.heap[q]?:=λq hq=>b7 _ _ _ _ hq
 have k2:∀{q:Nat} {cs:Array Value} {t:TypeId},W.heap[q]?=Zc cs t->t≠4->t≠51->(W'.setCell (ob,2) vF').heap[q]?=W.heap[q]?:=λ{q cs t} hq ht h5=>by
  refine (far q ?_).trans (k1 q (aC hq) (nF hq ht));exact iP hq h.obk h5
 refine⟨h.I.keep λq _ _ hq=>?_,h.num.bu λq hq=>?_,h.KU,?_,yR.bu λq hq=>far q ?_,h.ou.bu λq hq=>?_,h.apO,(h.kept.trans ⟨fO.os,fO.tape,fO.output,fO.size,λq hq hn=>k1 q hq λe=>hn (h.fin.block_lt e).1⟩).setCell (.inl h.hob) _,h.hob⟩
 ·rcases hq with hq | hq | ⟨x,hx,hq⟩ | ⟨x,hx,hq⟩
  ·obtain⟨cs,h1⟩:=h.I.own.bC hq;exact k2 h1 zD zD
  ·obtain⟨cs,h1⟩:=h.I.sO.bC hq;exact k2 h1 zD zD
  ·obtain⟨-,-,cs,h1⟩:=h.I.rS.lt hx hq;exact k2 h1 zD zD
  obtain⟨-,-,cs,h1⟩:=h.I.rT.lt hx hq;exact k2 h1 zD zD
 ·obtain⟨cs,h1⟩:=h.num.bC hq;exact k2 h1 zD zD
 ·have h1:=dM (i:=2) (v:=vF') aet;simpa using h1
 ·obtain⟨cs,h1⟩:=yR.bC hq;exact iP h1 aet zD
 obtain⟨cs,h1⟩:=h.ou.bC hq;exact k2 h1 zD zD
theorem zC.aCO(h:zC w6 W ob nb n hs ht vS vT nv sv vF vO sets rows nums fl ho){x:Hdr}{vO':Value}(yR:ax W' w6 58 1 zx (ho++[x]) vO')(fO:W.grownBy W' vO.ownBlock)(jA:vO'.ownBlock=vO.ownBlock\/vO'.ownBlock=W.heap.size):
 zC w6 (W'.setCell (ob,3) vO') ob nb n hs ht vS vT nv sv vF vO' sets rows nums fl (ho++[x]):=by
 have k1:∀q,q<W.heap.size->vO.ownBlock≠some q->W'.heap[q]?=W.heap[q]?:=λq hq hn=>fO.block q hq (λe=>hn e.symm)
 have nF:∀{q:Nat} {cs:Array Value} {t:TypeId},W.heap[q]?=Zc cs t->t≠58->vO.ownBlock≠some q:=λhq ht e=>by
  obtain⟨cs',hc⟩:=h.ou.bC e;exact iP hq hc ht rfl
 have aet:W'.heap[ob]?=Zc #[nv,sv,vF,vO] 51:=(k1 ob (aC h.obk) (nF h.obk zD)).trans h.obk;have far:∀q,q≠ob->(W'.setCell (ob,3) vO').heap[q]?=W'.heap[q]?:=λq hq=>b7 _ _ _ _ hq;have k2:∀{q:Nat} {cs:Array Value} {t:TypeId},W.heap[q]?=Zc cs t->vO.ownBlock≠some q->t≠51->(W'.setCell (ob,3) vO').heap[q]?=W.heap[q]?:=λ{q cs t} hq hn h5=>(far q (iP hq h.obk h5)).trans (k1 q (aC hq) hn);refine⟨h.I.keep λq _ _ hq=>?_,h.num.bu λq hq=>?_,h.KU,?_,h.fin.bu λq hq=>?_,yR.bu λq hq=>far q ?_,λq hq=>?_,(h.kept.trans ⟨fO.os,fO.tape,fO.output,fO.size,λq hq hn=>k1 q hq λe=>hn (h.ou.block_lt e).1⟩).setCell (.inl h.hob) _,h.hob⟩
 ·rcases hq with hq | hq | ⟨x,hx,hq⟩ | ⟨x,hx,hq⟩
  ·obtain⟨cs,h1⟩:=h.I.own.bC hq;exact k2 h1 (λe=>(h.apO q e).1 hq) zD
  ·obtain⟨cs,h1⟩:=h.I.sO.bC hq;exact k2 h1 (λe=>(h.apO q e).2 hq) zD
  ·obtain⟨-,-,cs,h1⟩:=h.I.rS.lt hx hq;exact k2 h1 (nF h1 zD) zD
  obtain⟨-,-,cs,h1⟩:=h.I.rT.lt hx hq;exact k2 h1 (nF h1 zD) zD
 ·obtain⟨cs,h1⟩:=h.num.bC hq;exact k2 h1 (nF h1 zD) zD
 ·have h1:=dM (i:=3) (v:=vO') aet;simpa using h1
 ·obtain⟨cs,h1⟩:=h.fin.bC hq;exact k2 h1 (nF h1 zD) zD
 ·obtain⟨cs,h1⟩:=yR.bC hq;exact iP h1 aet zD
 rcases jA with jA | jA
 ·exact h.apO q (jA ▸ hq)
 rw[jA] at hq;obtain rfl:=zI hq;exact⟨λe=>by have:=(h.I.own.block_lt e).2;omega,λe=>by have:=(h.I.sO.block_lt e).2;omega⟩
theorem zC.avv(h:zC w6 W ob nb n hs ht vS vT nv sv vF vO sets rows nums fl ho){i x:Nat}{r:List Int}{hA:Option Addr}{hc:Nat}{v:Int}(hr:rows[i]?=r)(hh:ht[i]?=some ⟨hA,r.length,hc⟩)(hx:r[x]?=v)(v':Int):
 ∃g,W.cell? ⟨g,x,none⟩=v/\W.frozen? ⟨g,x,none⟩=false/\(∀V,(Instr.indexAt 58 (hA,r.length,hc) x).run prog V= .ok (.pointer (some ⟨g,x,none⟩)) V)/\
  zC w6 (W.setCell ⟨g,x,none⟩ v') ob nb n hs ht vS vT nv sv vF vO sets (rows.set i (r.set x v')) nums fl ho:=by
 have FD:x<r.length:=(z4.1 hx).1;have yR:=h.I.rT.row i r _ hr hh;obtain⟨g,cap,e,lV,qo,Jy,XR,-,dO,rO⟩:=yR.setInt (i:=x) FD v';obtain⟨rfl,-,rfl⟩:=z19 (show Value.slice hA r.length hc=_ from e);obtain⟨cs,hblk⟩:=yR.bC (k:=g) rfl
 have jw:W.cell? (g,x)=v:=by
  obtain⟨A',c',ev,aI,-,-⟩:=yR.row MG zD;obtain⟨rfl,-,rfl⟩:=z19 (show Value.slice g r.length hc=_ from ev);obtain⟨b,off,e1,-,Ar⟩:=aI.2 zO;obtain⟨rfl,rfl,-⟩:=Addr.mk.inj (zI e1);have h1:=Ar x v hx 0 _ rfl;rw[Nat.mul_one,Qf,d9] at h1;exact h1
 have far:∀q,q≠g->(W.setCell (g,x) v').heap[q]?=W.heap[q]?:=λq hq=>b7 _ _ _ _ hq;have jb:=SK hh;have kS:∀y∈hs,∀q,y.v.ownBlock=some q->q≠g:=λy hy q hq e=>h.I.dS y hy _ jb q hq (by rw[e];rfl);refine⟨g,jw,XR,dO,⟨⟨h.I.own.bu λq hq=>far q ?_,h.I.rS.keep λy hy q hq=>far q (kS y hy q hq),h.I.sO.bu λq hq=>far q ?_,⟨by rw[List.length_set];exact h.I.rT.len,λj l y hl hy=>?_⟩,h.I.apart,h.I.dT,h.I.dS⟩,h.num.bu λq hq=>far q ?_,h.KU,(far ob ?_).trans h.obk,h.fin.bu λq hq=>far q ?_,h.ou.bu λq hq=>far q ?_,h.apO,h.kept.setCell (.inl lV) _,h.hob⟩⟩
 ·obtain⟨cs',h1⟩:=h.I.own.bC hq;exact iP h1 hblk zD
 ·obtain⟨cs',h1⟩:=h.I.sO.bC hq;exact iP h1 hblk zD
 ·by_cases hj:i=j
  ·subst hj;rw[hh] at hy;obtain rfl:=zI hy;rw[List.getElem?_set_self (z4.1 hr).1] at hl;obtain rfl:=zI hl;exact rO
  rw[List.getElem?_set_ne hj] at hl;exact(h.I.rT.row j l y hl hy).bu λq hq=>far q λe=>h.I.dT i j _ y q hj hh hy (by rw[e];rfl) hq
 ·have e':nb=q:=(by simpa[Value.ownBlock] using hq);exact λe=>h.KU.2 _ jb (by rw[e',e];rfl)
 ·exact iP h.obk hblk zD
 ·obtain⟨cs',h1⟩:=h.fin.bC hq;exact iP h1 hblk zD
 obtain⟨cs',h1⟩:=h.ou.bC hq;exact iP h1 hblk zD
end
