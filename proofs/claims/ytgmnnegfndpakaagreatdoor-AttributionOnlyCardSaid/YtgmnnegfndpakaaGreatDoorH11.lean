import Derived.Test.YtgmnnegfndpakaaGreatDoorH10
set_option maxHeartbeats 20000000
set_option maxRecDepth 100000
namespace Go.Proofs.YtgmnnegfndpakaaGreatDoor
open Go.RowKit
variable{pl JF pl0:List aU}{S T:Nat->Prop}{i b:Nat}{s:dR}{x y:List aU×dR}{once:List aU->List aU×dR}
abbrev LI:=Nat×aJ
def yO(pl:List aU)(i j:Nat):Prop:=∃q,pl[i]?=some q/\j∈q.follow
def sG(pl:List aU)(i:Nat):Option LI:=(pl[i]?).map λq=>(q.num,q.leaf)
inductive xk (pl:List aU) (last:List Nat):Nat->List LI->Prop
 | stop {i:Nat}:i∈last->xk pl last i []
 | go {i j:Nat} {l:LI} {w:List LI}:yO pl i j->sG pl j=l->xk pl last j w->xk pl last i (l::w)
def Acc(pl:List aU)(s:dR)(w:List LI):Prop:=(w=[]/\s.empty=true)\/∃j l v,j∈s.first/\sG pl j=some l/\w=l::v/\xk pl s.last j v
def qO(L M:List LI->Prop)(w:List LI):Prop:=∃u v,w=u++v/\L u/\M v
def qP(L:List LI->Prop):Nat->List LI->Prop
 | 0=>λw=>w=[]
 | n+1=>qO L (qP L n)
structure Seg (pl:List aU) (S:Nat->Prop) (s:dR):Prop where
 lt:∀i,S i->i<pl.length
 first:∀i∈s.first,S i
 last:∀i∈s.last,S i
 qI:∀i j,S i->yO pl i j->S j
structure uu (pl:List aU) (S:Nat->Prop) (s:dR) (L:List LI->Prop):Prop where
 fF:Seg pl S s
 acc:∀w,Acc pl s w↔L w
theorem Bo(pl:List aU)(f:List Nat)(i k:Nat):(tZ pl f i)[k]?=if i=k then (pl[k]?).map λq=>{ q with follow:=q.follow++f } else pl[k]?:=by
 unfold tZ;rw[List.getElem?_modify]
 split<;>simp
theorem Vj(pl:List aU)(f:List Nat)(i:Nat):(tZ pl f i).length=pl.length:=by unfold tZ;simp
theorem amA(pl:List aU)(f:List Nat)(i k:Nat):sG (tZ pl f i) k=sG pl k:=by
 unfold sG;rw[Bo]
 split
 ·cases pl[k]?<;>rfl
 rfl
theorem amB(pl:List aU)(f:List Nat)(i k j:Nat):yO (tZ pl f i) k j↔yO pl k j\/(i=k/\k<pl.length/\j∈f):=by
 unfold yO;rw[Bo];constructor
 ·rintro⟨q,h1,h2⟩
  split at h1
  ·rename_i hik
   cases hq:pl[k]? with
   | none=>rw[hq] at h1;cases h1
   | some q0=>
     rw[hq] at h1;simp only[Option.map_some,l5] at h1;subst h1
     rcases z12.1 h2 with h2 | h2
     ·exact .inl ⟨q0,rfl,h2⟩
     exact .inr ⟨hik,(z4.1 hq).1,h2⟩
  exact .inl ⟨q,h1,h2⟩
 rintro (⟨q,h1,h2⟩ | ⟨h1,h2,h3⟩)
 ·by_cases hik:i=k
  ·rw[j6 hik,h1];exact⟨_,rfl,z12.2 (.inl h2)⟩
  rw[j5 hik];exact⟨q,h1,h2⟩
 rw[j6 h1,z6 h2];exact⟨_,rfl,z12.2 (.inr h3)⟩
theorem Vk(f:List Nat):∀(l:List Nat) (pl:List aU),(l.foldl (λpl i=>tZ pl f i) pl).length=pl.length
 | [],_=>rfl
 | i::l,pl=>by rw[JN,Vk f l,Vj]
theorem ab3(f:List Nat):∀(l:List Nat) (pl:List aU) (k:Nat),sG (l.foldl (λpl i=>tZ pl f i) pl) k=sG pl k
 | [],_,_=>rfl
 | i::l,pl,k=>by rw[JN,ab3 f l,amA]
theorem ab4(f:List Nat):∀(l:List Nat) (pl:List aU) (k j:Nat),yO (l.foldl (λpl i=>tZ pl f i) pl) k j↔yO pl k j\/(k∈l/\k<pl.length/\j∈f)
 | [],_,_,_=>by simp
 | i::l,pl,k,j=>by
   rw[JN,ab4 f l,amB,Vj,TT];constructor
   ·rintro ((h | ⟨h1,h2,h3⟩) | ⟨h1,h2,h3⟩)
    ·exact .inl h
    ·exact .inr ⟨.inl h1.symm,h2,h3⟩
    exact .inr ⟨.inr h1,h2,h3⟩
   rintro (h | ⟨h1 | h1,h2,h3⟩)
   ·exact .inl (.inl h)
   ·exact .inl (.inr ⟨h1.symm,h2,h3⟩)
   exact .inr ⟨h1,h2,h3⟩
theorem mf(pl:List aU)(x y:dR):(dB pl x y).length=pl.length:=Vk _ _ _
theorem kZ(pl:List aU)(x y:dR)(k:Nat):sG (dB pl x y) k=sG pl k:=ab3 _ _ _ _
theorem pM(pl:List aU)(x y:dR)(k j:Nat):yO (dB pl x y) k j↔yO pl k j\/(k∈x.last/\k<pl.length/\j∈y.first):=ab4 _ _ _ _ _
theorem xk.frame{last:List Nat}(hc:∀i j,S i->yO pl i j->S j)(hf:∀i j,S i->(yO JF i j↔yO pl i j))(hl:∀i,S i->sG JF i=sG pl i){w:List LI}(hi:S i)(h:xk pl last i w):xk JF last i w:=by
 induction h with
 | stop h=>exact .stop h
 | go h1 h2 _ ih=>
   have hj:=hc _ _ hi h1;exact .go ((hf _ _ hi).2 h1) ((hl _ hj).trans h2) (ih hj)
theorem uu.frame{L:List LI->Prop}(h:uu pl S s L)(hlen:pl.length<=JF.length)(hf:∀i j,S i->(yO JF i j↔yO pl i j))(hl:∀i,S i->sG JF i=sG pl i):uu JF S s L:=by
 refine⟨⟨λi hi=>d4 (h.fF.lt i hi) hlen,h.fF.first,h.fF.last,λi j hi hj=>h.fF.qI i j hi ((hf i j hi).1 hj)⟩,λw=>?_⟩;rw[<-h.acc w];unfold Acc;constructor
 ·rintro (h1 | ⟨j,l,v,h1,h2,h3,h4⟩)
  ·exact .inl h1
  have hj:=h.fF.first j h1;exact .inr ⟨j,l,v,h1,(hl j hj).symm.trans h2,h3,h4.frame (λi j hi hj=>h.fF.qI i j hi ((hf i j hi).1 hj)) (λi j hi=>(hf i j hi).symm) (λi hi=>(hl i hi).symm) hj⟩
 rintro (h1 | ⟨j,l,v,h1,h2,h3,h4⟩)
 ·exact .inl h1
 have hj:=h.fF.first j h1;exact .inr ⟨j,l,v,h1,(hl j hj).trans h2,h3,h4.frame h.fF.qI hf hl hj⟩
theorem uu.wide{S':Nat->Prop}{L:List LI->Prop}(h:uu pl S s L)(hS:∀i,S i↔S' i):uu pl S' s L:=by
 obtain rfl:S=S':=funext λi=>propext (hS i);exact h
theorem uu.join{x y:dR}{L M:List LI->Prop}(hx:uu pl S x L)(hy:uu pl T y M)(hd:∀i,S i->¬T i):
 uu (dB pl x y) (λi=>S i\/T i) (fG x y) (qO L M):=by
 have ex:∀i,i∈x.last->¬T i:=λi hi=>hd i (hx.fF.last i hi);have ey:∀i,i∈y.last->¬S i:=λi hi hs=>hd i hs (hy.fF.last i hi)
 have ab5:∀i,i∈(fG x y).last↔i∈y.last\/(y.empty=true/\i∈x.last):=λi=>by
  unfold fG;simp only[z12];cases y.empty<;>simp
 have ahi:∀i,i∈(fG x y).first↔i∈x.first\/(x.empty=true/\i∈y.first):=λi=>by
  unfold fG;simp only[z12];cases x.empty<;>simp
 have A1:∀{i:Nat} {w:List LI},xk (dB pl x y) (fG x y).last i w->T i->xk pl y.last i w:=by
  intro i w h
  induction h with
  | stop h=>
    intro hi
    rcases (ab5 _).1 h with h | ⟨_,h⟩
    ·exact .stop h
    exact absurd hi (ex _ h)
  | go h1 h2 _ ih=>
    intro hi;rw[kZ] at h2
    rcases (pM _ _ _ _ _).1 h1 with h1 | ⟨h1,_⟩
    ·exact .go h1 h2 (ih (hy.fF.qI _ _ hi h1))
    exact absurd hi (ex _ h1)
 have A2:∀{i:Nat} {w:List LI},xk pl y.last i w->xk (dB pl x y) (fG x y).last i w:=by
  intro i w h
  induction h with
  | stop h=>exact .stop ((ab5 _).2 (.inl h))
  | go h1 h2 _ ih=>exact .go ((pM _ _ _ _ _).2 (.inl h1)) (by rw[kZ];exact h2) ih
 have B1:∀{i:Nat} {w:List LI},xk (dB pl x y) (fG x y).last i w->S i->∃u v,w=u++v/\xk pl x.last i u/\Acc pl y v:=by
  intro i w h
  induction h with
  | stop h=>
    intro hi
    rcases (ab5 _).1 h with h | ⟨h0,h⟩
    ·exact absurd hi (ey _ h)
    exact⟨[],[],rfl,.stop h,.inl ⟨rfl,h0⟩⟩
  | @go i j l w h1 h2 h3 ih=>
    intro hi;rw[kZ] at h2
    rcases (pM _ _ _ _ _).1 h1 with h1 | ⟨h1,_,h4⟩
    ·obtain⟨u,v,e,a,b⟩:=ih (hx.fF.qI _ _ hi h1);exact⟨l::u,v,by rw[e];rfl,.go h1 h2 a,b⟩
    exact⟨[],l::w,rfl,.stop h1,.inr ⟨j,l,w,h4,h2,rfl,A1 h3 (hy.fF.first _ h4)⟩⟩
 have B2:∀{i:Nat} {u v:List LI},xk pl x.last i u->S i->Acc pl y v->xk (dB pl x y) (fG x y).last i (u++v):=by
  intro i u v h
  induction h with
  | stop h=>
    intro hi ha
    rcases ha with ⟨rfl,h0⟩ | ⟨j,l,v',h1,h2,rfl,h3⟩
    ·exact .stop ((ab5 _).2 (.inr ⟨h0,h⟩))
    exact .go ((pM _ _ _ _ _).2 (.inr ⟨h,hx.fF.lt _ hi,h1⟩)) (by rw[kZ];exact h2) (A2 h3)
  | go h1 h2 _ ih=>
    intro hi ha;exact .go ((pM _ _ _ _ _).2 (.inl h1)) (by rw[kZ];exact h2) (ih (hx.fF.qI _ _ hi h1) ha)
 refine⟨⟨?_,?_,?_,?_⟩,λw=>?_⟩
 ·intro i hi;rw[mf]
  rcases hi with hi | hi
  ·exact hx.fF.lt i hi
  exact hy.fF.lt i hi
 ·intro i hi
  rcases (ahi i).1 hi with hi | ⟨_,hi⟩
  ·exact .inl (hx.fF.first i hi)
  exact .inr (hy.fF.first i hi)
 ·intro i hi
  rcases (ab5 i).1 hi with hi | ⟨_,hi⟩
  ·exact .inr (hy.fF.last i hi)
  exact .inl (hx.fF.last i hi)
 ·intro i j hi hj
  rcases (pM _ _ _ _ _).1 hj with hj | ⟨_,_,hj⟩
  ·rcases hi with hi | hi
   ·exact .inl (hx.fF.qI i j hi hj)
   exact .inr (hy.fF.qI i j hi hj)
  exact .inr (hy.fF.first j hj)
 have aA8:qO L M w↔∃u v,w=u++v/\Acc pl x u/\Acc pl y v:=by
  unfold qO;constructor
  ·rintro⟨u,v,e,a,b⟩;exact⟨u,v,e,(hx.acc u).2 a,(hy.acc v).2 b⟩
  rintro⟨u,v,e,a,b⟩;exact⟨u,v,e,(hx.acc u).1 a,(hy.acc v).1 b⟩
 rw[aA8];constructor
 ·rintro (⟨rfl,h⟩ | ⟨j,l,v,h1,h2,rfl,h3⟩)
  ·have h':(x.empty&&y.empty)=true:=h;rw[z7] at h';exact⟨[],[],rfl,.inl ⟨rfl,h'.1⟩,.inl ⟨rfl,h'.2⟩⟩
  rw[kZ] at h2
  rcases (ahi j).1 h1 with h1 | ⟨h0,h1⟩
  ·obtain⟨u,v',e,a,b⟩:=B1 h3 (hx.fF.first j h1);exact⟨l::u,v',by rw[e];rfl,.inr ⟨j,l,u,h1,h2,rfl,a⟩,b⟩
  exact⟨[],l::v,rfl,.inl ⟨rfl,h0⟩,.inr ⟨j,l,v,h1,h2,rfl,A1 h3 (hy.fF.first j h1)⟩⟩
 rintro⟨u,v,rfl,(⟨rfl,h0⟩ | ⟨j,l,u',h1,h2,rfl,h3⟩),hb⟩
 ·rcases hb with ⟨rfl,h0'⟩ | ⟨j,l,v',h1,h2,rfl,h3⟩
  ·exact .inl ⟨rfl,by show (x.empty&&y.empty)=true;rw[h0,h0'];rfl⟩
  exact .inr ⟨j,l,v',(ahi j).2 (.inr ⟨h0,h1⟩),by rw[kZ];exact h2,rfl,A2 h3⟩
 exact .inr ⟨j,l,u'++v,(ahi j).2 (.inl h1),by rw[kZ];exact h2,rfl,B2 h3 (hx.fF.first j h1) hb⟩
theorem uu.star{x:dR}{L:List LI->Prop}(hx:uu pl S x L):
 uu (dB pl x x) S { x with empty:=true } (λw=>∃n,qP L n w):=by
 have A:∀{i:Nat} {w:List LI},xk (dB pl x x) x.last i w->S i->∃u v n,w=u++v/\xk pl x.last i u/\qP L n v:=by
  intro i w h
  induction h with
  | stop h=>intro _;exact⟨[],[],0,rfl,.stop h,rfl⟩
  | @go i j l w h1 h2 h3 ih=>
    intro hi;rw[kZ] at h2
    rcases (pM _ _ _ _ _).1 h1 with h1 | ⟨h1,_,h4⟩
    ·obtain⟨u,v,n,e,a,b⟩:=ih (hx.fF.qI _ _ hi h1);exact⟨l::u,v,n,by rw[e];rfl,.go h1 h2 a,b⟩
    obtain⟨u,v,n,e,a,b⟩:=ih (hx.fF.first _ h4);exact⟨[],l::w,n+1,rfl,.stop h1,l::u,v,by rw[e];rfl,(hx.acc _).1 (.inr ⟨j,l,u,h4,h2,rfl,a⟩),b⟩
 have B:∀(n:Nat) {i:Nat} {u v:List LI},xk pl x.last i u->S i->qP L n v->xk (dB pl x x) x.last i (u++v):=by
  intro n
  induction n with
  | zero=>
    intro i u v h hi hv;obtain rfl:v=[]:=hv;rw[m8]
    induction h with
    | stop h=>exact .stop h
    | go h1 h2 _ ih=>exact .go ((pM _ _ _ _ _).2 (.inl h1)) (by rw[kZ];exact h2) (ih (hx.fF.qI _ _ hi h1))
  | succ n ihn=>
    intro i u v h
    induction h with
    | @stop i h=>
      rintro hi ⟨v1,v2,rfl,h1,h2⟩
      rcases (hx.acc v1).2 h1 with ⟨rfl,_⟩ | ⟨j,l,v',a1,a2,rfl,a3⟩
      ·exact ihn (.stop h) hi h2
      exact .go ((pM _ _ _ _ _).2 (.inr ⟨h,hx.fF.lt _ hi,a1⟩)) (by rw[kZ];exact a2) (ihn a3 (hx.fF.first _ a1) h2)
    | go h1 h2 _ ih=>
      intro hi hv;exact .go ((pM _ _ _ _ _).2 (.inl h1)) (by rw[kZ];exact h2) (ih (hx.fF.qI _ _ hi h1) hv)
 refine⟨⟨λi hi=>by rw[mf];exact hx.fF.lt i hi,hx.fF.first,hx.fF.last,λi j hi hj=>?_⟩,λw=>?_⟩
 ·rcases (pM _ _ _ _ _).1 hj with hj | ⟨_,_,hj⟩
  ·exact hx.fF.qI i j hi hj
  exact hx.fF.first j hj
 constructor
 ·rintro (⟨rfl,_⟩ | ⟨j,l,v,h1,h2,rfl,h3⟩)
  ·exact⟨0,rfl⟩
  rw[kZ] at h2;obtain⟨u,v',n,e,a,b⟩:=A h3 (hx.fF.first j h1);exact⟨n+1,l::u,v',by rw[e];rfl,(hx.acc _).1 (.inr ⟨j,l,u,h1,h2,rfl,a⟩),b⟩
 rintro⟨n,hn⟩
 induction n generalizing w with
 | zero=>exact .inl ⟨hn,rfl⟩
 | succ n ih=>
   obtain⟨v1,v2,rfl,h1,h2⟩:=hn
   rcases (hx.acc v1).2 h1 with ⟨rfl,_⟩ | ⟨j,l,v',a1,a2,rfl,a3⟩
   ·exact ih v2 h2
   exact .inr ⟨j,l,v'++v2,a1,by rw[kZ];exact a2,rfl,B n a3 (hx.fF.first j a1) h2⟩
def Gg(L:List LI->Prop)(mn mx:Int)(w:List LI):Prop:=∃n:Nat,mn<=n/\(mx= -1\/(n:Int)<=mx)/\qP L n w
mutual
def rW:aJ->Nat->List LI->Prop
 | .mk k mn mx el c pr args,num=>λw=>if fD k=true then w=[(num,.mk k mn mx el c pr args)] else if k=3 then NG args (num+1) w else JG args (num+1) w
def NG:List aJ->Nat->List LI->Prop
 | [],_=>λw=>w=[]
 | p::l,num=>qO (Gg (rW p num) p.mn p.mx) (NG l (num+dh p))
def JG:List aJ->Nat->List LI->Prop
 | [],_=>λ_=>False
 | p::l,num=>λw=>Gg (rW p num) p.mn p.mx w\/JG l (num+dh p) w
end
mutual
def kR:aJ->Bool
 | .mk k mn mx _ _ _ args=>bU mn mx&&((fD k&&args.isEmpty)||(decide (k=3)&&oz args)||(decide (k=4)&&!args.isEmpty&&oz args))
def oz:List aJ->Bool
 | []=>true
 | p::l=>kR p&&oz l
end
mutual
def lJ:aJ->Nat
 | .mk k mn mx _ _ _ args=>((if fD k then 1 else 0)+kF args)*(if mx= -1 then mn.toNat+1 else mx.toNat)
def kF:List aJ->Nat
 | []=>0
 | p::l=>lJ p+kF l
end
theorem ab6{L L' M M':List LI->Prop}(h1:∀w,L w↔L' w)(h2:∀w,M w↔M' w)(w:List LI):qO L M w↔qO L' M' w:=by
 unfold qO;constructor
 ·rintro⟨u,v,e,a,b⟩;exact⟨u,v,e,(h1 u).1 a,(h2 v).1 b⟩
 rintro⟨u,v,e,a,b⟩;exact⟨u,v,e,(h1 u).2 a,(h2 v).2 b⟩
theorem NH(L:List LI->Prop)(w:List LI):qO (λv=>v=[]) L w↔L w:=by
 constructor
 ·rintro⟨u,v,rfl,rfl,h⟩;exact h
 intro h;exact⟨[],w,rfl,rfl,h⟩
theorem Zw(L:List LI->Prop)(w:List LI):qO L (λv=>v=[]) w↔L w:=by
 constructor
 ·rintro⟨u,v,rfl,h,rfl⟩;rw[m8];exact h
 intro h;exact⟨w,[],zP,h,rfl⟩
theorem NI(L M N:List LI->Prop)(w:List LI):qO (qO L M) N w↔qO L (qO M N) w:=by
 constructor
 ·rintro⟨_,v,rfl,⟨a,b,rfl,h1,h2⟩,h3⟩;exact⟨a,b++v,zP,h1,b,v,rfl,h2,h3⟩
 rintro⟨a,_,rfl,h1,⟨b,v,rfl,h2,h3⟩⟩;exact⟨a++b,v,zP,⟨a,b,rfl,h1,h2⟩,h3⟩
theorem IL(L:List LI->Prop):∀(a b:Nat) (w:List LI),qP L (a+b) w↔qO (qP L a) (qP L b) w
 | 0,b,w=>by
   rw[d9];exact(NH (qP L b) w).symm
 | a+1,b,w=>by
   rw[show a+1+b=(a+b)+1 by omega];show qO L (qP L (a+b)) w↔qO (qO L (qP L a)) (qP L b) w;rw[NI];exact ab6 (λ_=>Iff.rfl) (IL L a b) w
theorem uu.wJ{L L':List LI->Prop}(h:uu pl S s L)(hL:∀w,L w↔L' w):uu pl S s L':=⟨h.fF,λw=>(h.acc w).trans (hL w)⟩
theorem uu.opt{L:List LI->Prop}(h:uu pl S s L):uu pl S { s with empty:=true } (λw=>w=[]\/L w):=by
 refine⟨⟨h.fF.lt,h.fF.first,h.fF.last,h.fF.qI⟩,λw=>?_⟩;rw[<-h.acc w];unfold Acc;constructor
 ·rintro (⟨h1,_⟩ | h1)
  ·exact .inl h1
  exact .inr (.inr h1)
 rintro (h1 | ⟨h1,_⟩ | h1)
 ·exact .inl ⟨h1,rfl⟩
 ·exact .inl ⟨h1,rfl⟩
 exact .inr h1
theorem uu.none(pl:List aU):uu pl (λ_=>False) oN (λw=>w=[]):=by
 refine⟨⟨λ_ h=>h.elim,λi h=>by simp[oN] at h,λi h=>by simp[oN] at h,λ_ _ h=>h.elim⟩,λw=>?_⟩;constructor
 ·rintro (⟨h,_⟩ | ⟨j,_,_,h,_⟩)
  ·exact h
  simp[oN] at h
 intro h;exact .inl ⟨h,rfl⟩
theorem uu.or{x y:dR}{L M:List LI->Prop}(hx:uu pl S x L)(hy:uu pl T y M)(hd:∀i,S i->¬T i):
 uu pl (λi=>S i\/T i) ⟨x.first++y.first,x.last++y.last,x.empty||y.empty⟩ (λw=>L w\/M w):=by
 have up:∀{a b:List Nat} {i:Nat} {w:List LI},(∀k∈a,k∈b)->xk pl a i w->xk pl b i w:=by
  intro a b i w nz h
  induction h with
  | stop h=>exact .stop (nz _ h)
  | go h1 h2 _ ih=>exact .go h1 h2 ih
 have dx:∀{i:Nat} {w:List LI},xk pl (x.last++y.last) i w->S i->xk pl x.last i w:=by
  intro i w h
  induction h with
  | stop h=>
    intro hi
    rcases z12.1 h with h | h
    ·exact .stop h
    exact absurd (hy.fF.last _ h) (hd _ hi)
  | go h1 h2 _ ih=>intro hi;exact .go h1 h2 (ih (hx.fF.qI _ _ hi h1))
 have dy:∀{i:Nat} {w:List LI},xk pl (x.last++y.last) i w->T i->xk pl y.last i w:=by
  intro i w h
  induction h with
  | stop h=>
    intro hi
    rcases z12.1 h with h | h
    ·exact absurd hi (hd _ (hx.fF.last _ h))
    exact .stop h
  | go h1 h2 _ ih=>intro hi;exact .go h1 h2 (ih (hy.fF.qI _ _ hi h1))
 refine⟨⟨?_,?_,?_,?_⟩,λw=>?_⟩
 ·rintro i (h | h)
  ·exact hx.fF.lt i h
  exact hy.fF.lt i h
 ·intro i h
  rcases z12.1 h with h | h
  ·exact .inl (hx.fF.first i h)
  exact .inr (hy.fF.first i h)
 ·intro i h
  rcases z12.1 h with h | h
  ·exact .inl (hx.fF.last i h)
  exact .inr (hy.fF.last i h)
 ·rintro i j (h | h) hj
  ·exact .inl (hx.fF.qI i j h hj)
  exact .inr (hy.fF.qI i j h hj)
 rw[<-hx.acc w,<-hy.acc w];constructor
 ·rintro (⟨rfl,h⟩ | ⟨j,l,v,h1,h2,h3,h4⟩)
  ·have h':(x.empty||y.empty)=true:=h;rw[Bool.or_eq_true] at h'
   rcases h' with h' | h'
   ·exact .inl (.inl ⟨rfl,h'⟩)
   exact .inr (.inl ⟨rfl,h'⟩)
  rcases z12.1 h1 with h1 | h1
  ·exact .inl (.inr ⟨j,l,v,h1,h2,h3,dx h4 (hx.fF.first j h1)⟩)
  exact .inr (.inr ⟨j,l,v,h1,h2,h3,dy h4 (hy.fF.first j h1)⟩)
 rintro ((⟨rfl,h⟩ | ⟨j,l,v,h1,h2,h3,h4⟩) | (⟨rfl,h⟩ | ⟨j,l,v,h1,h2,h3,h4⟩))
 ·exact .inl ⟨rfl,by show (x.empty||y.empty)=true;rw[h];rfl⟩
 ·exact .inr ⟨j,l,v,z12.2 (.inl h1),h2,h3,up (λk hk=>z12.2 (.inl hk)) h4⟩
 ·exact .inl ⟨rfl,by show (x.empty||y.empty)=true;rw[h];simp⟩
 exact .inr ⟨j,l,v,z12.2 (.inr h1),h2,h3,up (λk hk=>z12.2 (.inr hk)) h4⟩
theorem Vl(f:List Nat):∀(l:List Nat) (pl:List aU) (k:Nat),k ∉ l->(l.foldl (λpl i=>tZ pl f i) pl)[k]?=pl[k]?
 | [],_,_,_=>rfl
 | i::l,pl,k,h=>by
   rw[TT,not_or] at h;rw[JN,Vl f l _ _ h.2,Bo,j5 (Ne.symm h.1)]
theorem Fq{x y:dR}{k:Nat}(h:k ∉ x.last):(dB pl x y)[k]?=pl[k]?:=Vl _ _ _ _ h
structure Made (b:Nat) (pl0:List aU) (r:List aU×dR) (L:List LI->Prop):Prop where
 base:b<=r.1.length
 pre:∀i,i<b->r.1[i]?=pl0[i]?
 ok:uu r.1 (λi=>b<=i/\i<r.1.length) r.2 L
theorem ae4(h:JF[i]?=pl[i]?)(j:Nat):yO JF i j↔yO pl i j:=by unfold yO;rw[h]
theorem ae5(h:JF[i]?=pl[i]?):sG JF i=sG pl i:=by unfold sG;rw[h]
theorem Made.wJ{r:List aU×dR}{L L':List LI->Prop}(h:Made b pl0 r L)(hL:∀w,L w↔L' w):Made b pl0 r L':=⟨h.base,h.pre,h.ok.wJ hL⟩
theorem Made.two{L M:List LI->Prop}(hx:Made b pl0 x L)(hy:Made x.1.length x.1 y M):
 b<=y.1.length/\(∀i,i<b->y.1[i]?=pl0[i]?)/\uu y.1 (λi=>b<=i/\i<x.1.length) x.2 L:=by
 refine⟨zT hx.base hy.base,λi hi=>(hy.pre i (d4 hi hx.base)).trans (hx.pre i hi),?_⟩;exact hx.ok.frame hy.base (λi j hi=>ae4 (hy.pre i hi.2) j) (λi hi=>ae5 (hy.pre i hi.2))
theorem Made.cat{L M:List LI->Prop}(hx:Made b pl0 x L)(hy:Made x.1.length x.1 y M):
 Made b pl0 (dB y.1 x.2 y.2,fG x.2 y.2) (qO L M):=by
 obtain⟨h1,h2,h3⟩:=hx.two hy;refine⟨by show b<=(dB _ _ _).length;rw[mf];exact h1,λi hi=>?_,?_⟩
 ·show (dB _ _ _)[i]?=_;rw[Fq (λhm=>by have:=h3.fF.last i hm;omega),h2 i hi]
 refine (h3.join hy.ok (λi hi hj=>by omega)).wide λi=>?_;show _↔b<=i/\i<(dB _ _ _).length;rw[mf];have:=hx.base;have:=hy.base;omega
theorem Made.cat'{L M:List LI->Prop}(hx:Made b pl0 x L)(hy:Made x.1.length x.1 y M):
 Made b pl0 (dB y.1 y.2 x.2,fG y.2 x.2) (qO M L):=by
 obtain⟨h1,h2,h3⟩:=hx.two hy;have hb:=hx.base;refine⟨by show b<=(dB _ _ _).length;rw[mf];exact h1,λi hi=>?_,?_⟩
 ·show (dB _ _ _)[i]?=_;rw[Fq (λhm=>by have:=hy.ok.fF.last i hm;omega),h2 i hi]
 refine (hy.ok.join h3 (λi hi hj=>by omega)).wide λi=>?_;show _↔b<=i/\i<(dB _ _ _).length;rw[mf];have:=hy.base;omega
theorem Made.or{L M:List LI->Prop}(hx:Made b pl0 x L)(hy:Made x.1.length x.1 y M):
 Made b pl0 (y.1,⟨x.2.first++y.2.first,x.2.last++y.2.last,x.2.empty||y.2.empty⟩) (λw=>L w\/M w):=by
 obtain⟨h1,h2,h3⟩:=hx.two hy;refine⟨h1,h2,(h3.or hy.ok (λi hi hj=>by omega)).wide λi=>?_⟩;show _↔b<=i/\i<y.1.length;have:=hx.base;have:=hy.base;omega
theorem Made.nil(pl:List aU):Made pl.length pl (pl,oN) (λw=>w=[]):=
 ⟨zR _,λ_ _=>rfl,(uu.none pl).wide λi=>⟨λh=>h.elim,λh=>by have:pl.length<=i/\i<pl.length:=h;omega⟩⟩
def CS(once:List aU->List aU×dR)(L:List LI->Prop):Prop:=∀pl,Made pl.length pl (once pl) L
theorem JH{L:List LI->Prop}(ho:CS once L):∀(n:Nat) {pl:List aU} {out:dR} {M:List LI->Prop},Made b pl0 (pl,out) M->Made b pl0 (kY once n pl out) (qO M (qP L n))
 | 0,pl,out,M,h=>h.wJ λw=>(Zw M w).symm
 | n+1,pl,out,M,h=>by
   rw[kY];refine (JH ho n (h.cat (ho pl))).wJ λw=>?_;rw[NI];exact Iff.rfl
theorem JI{L:List LI->Prop}(ho:CS once L):∀(n k:Nat) {pl:List aU} {tail:dR},Made b pl0 (pl,tail) (λw=>∃m,m<=k/\qP L m w)->Made b pl0 (mY once n pl tail) (λw=>∃m,m<=n+k/\qP L m w)
 | 0,k,pl,tail,h=>by rw[mY,d9];exact h
 | n+1,k,pl,tail,h=>by
   rw[mY];have h1:=h.cat' (ho pl)
   have h2:Made b pl0 (dB (once pl).1 (once pl).2 tail,{ fG (once pl).2 tail with empty:=true }) (λw=>∃m,m<=k+1/\qP L m w):=by
    refine⟨h1.base,h1.pre,h1.ok.opt.wJ λw=>?_⟩;constructor
    ·rintro (rfl | ⟨u,v,rfl,a,m,hm,c⟩)
     ·exact⟨0,Nat.zero_le _,rfl⟩
     exact⟨m+1,Nat.succ_le_succ hm,u,v,rfl,a,c⟩
    rintro⟨m,hm,hp⟩
    cases m with
    | zero=>exact .inl hp
    | succ m=>
      obtain⟨u,v,e,a,c⟩:=hp;exact .inr ⟨u,v,e,a,m,Nat.le_of_succ_le_succ hm,c⟩
   rw[show n+1+k=n+(k+1) by omega];exact JI ho n (k+1) h2
theorem Uo{L:List LI->Prop}(ho:CS once L){mn mx z:Int}(h0:0<=mn)(hx:mx= -1\/mn<=mx)(hz:z=0->∀w,Gg L mn mx w↔w=[]):CS (rH once mn mx z) (Gg L mn mx):=by
 intro pl;unfold rH
 split
 ·rename_i h;exact(Made.nil pl).wJ λw=>(hz h w).symm
 have h1:=JH ho mn.toNat (Made.nil pl);have h1:Made pl.length pl (kY once mn.toNat pl oN) (qP L mn.toNat):=h1.wJ λw=>NH _ w;simp only;obtain⟨a,ha⟩:=zF (kY once mn.toNat pl oN);rw[ha] at h1 ⊢
 split
 ·rename_i hm;have hb:=ho a.1;obtain⟨bb,dY⟩:=zF (once a.1);rw[dY] at hb ⊢
  have hs:Made a.1.length a.1 (dB bb.1 bb.2 bb.2,{ bb.2 with empty:=true }) (λw=>∃n,qP L n w):=by
   refine⟨by show _<=(dB _ _ _).length;rw[mf];exact hb.base,λi hi=>?_,hb.ok.star.wide λi=>?_⟩
   ·show (dB _ _ _)[i]?=_;rw[Fq (λhm=>by have:=hb.ok.fF.last i hm;omega),hb.pre i hi]
   show _↔_/\i<(dB _ _ _).length;rw[mf]
  refine (h1.cat hs).wJ λw=>?_;unfold Gg;constructor
  ·rintro⟨u,v,rfl,a1,n,a2⟩;exact⟨mn.toNat+n,zO,.inl hm,(IL _ _ _ _).2 ⟨u,v,rfl,a1,a2⟩⟩
  rintro⟨n,a1,_,a3⟩;rw[show n=mn.toNat+(n - mn.toNat) by omega,IL] at a3;obtain⟨u,v,e,a4,a5⟩:=a3;exact⟨u,v,e,a4,_,a5⟩
 rename_i hm;have hb:Made a.1.length a.1 (a.1,oN) (λw=>∃m,m<=0/\qP L m w):=(Made.nil a.1).wJ λw=>⟨λh=>⟨0,zR _,h⟩,λ⟨m,h1,h2⟩=>by obtain rfl:m=0:=Nat.le_zero.1 h1;exact h2⟩;have hb:=JI ho (mx - mn).toNat 0 hb;refine (h1.cat hb).wJ λw=>?_;unfold Gg;constructor
 ·rintro⟨u,v,rfl,a1,n,a2,a3⟩;exact⟨mn.toNat+n,zO,.inr zO,(IL _ _ _ _).2 ⟨u,v,rfl,a1,a3⟩⟩
 rintro⟨n,a1,a2,a3⟩;rw[show n=mn.toNat+(n - mn.toNat) by omega,IL] at a3;obtain⟨u,v,e,a4,a5⟩:=a3;exact⟨u,v,e,a4,_,zO,a5⟩
