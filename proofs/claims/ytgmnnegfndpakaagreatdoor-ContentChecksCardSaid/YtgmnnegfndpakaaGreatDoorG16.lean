import Derived.Test.YtgmnnegfndpakaaGreatDoorG15
set_option maxHeartbeats 20000000
set_option maxRecDepth 100000
namespace Go.Proofs.YtgmnnegfndpakaaGreatDoor
open Go Go.RowKit
structure aU where
 leaf:aJ
 num:Nat
 follow:List Nat
structure dR where
 first:List Nat
 last:List Nat
 empty:Bool
def oN:dR:=⟨[],[],true⟩
def tZ(pl:List aU)(f:List Nat)(i:Nat):List aU:=pl.modify i λq=>{ q with follow:=q.follow++f }
def dB(pl:List aU)(x y:dR):List aU:=x.last.foldl (λpl i=>tZ pl y.first i) pl
def fG(x y:dR):dR:=⟨x.first++(if x.empty then y.first else []),y.last++(if y.empty then x.last else []),x.empty&&y.empty⟩
def kY(once:List aU->List aU×dR):Nat->List aU->dR->List aU×dR
 | 0,pl,out=>(pl,out)
 | n+1,pl,out=>kY once n (dB (once pl).1 out (once pl).2) (fG out (once pl).2)
def mY(once:List aU->List aU×dR):Nat->List aU->dR->List aU×dR
 | 0,pl,tail=>(pl,tail)
 | n+1,pl,tail=>mY once n (dB (once pl).1 (once pl).2 tail) { fG (once pl).2 tail with empty:=true }
def rH(once:List aU->List aU×dR)(mn mx z:Int)(pl:List aU):List aU×dR:=
 if z=0 then (pl,oN) else
 let a:=kY once mn.toNat pl oN
 if mx= -1 then
  let b:=once a.1
  let y:dR:={ b.2 with empty:=true }
  (dB (dB b.1 b.2 b.2) a.2 y,fG a.2 y)
 else
  let b:=mY once (mx - mn).toNat a.1 oN
  (dB b.1 a.2 b.2,fG a.2 b.2)
mutual
def kL:aJ->Nat->List aU->List aU×dR
 | .mk k mn mx el c pr args,num,pl=>if fD k then (pl++[⟨.mk k mn mx el c pr args,num,[]⟩],⟨[pl.length],[pl.length],false⟩) else pI (decide (k=3)) args (num+1) pl ⟨[],[],decide (k=3)⟩
def pI:Bool->List aJ->Nat->List aU->dR->List aU×dR
 | _,[],_,pl,out=>(pl,out)
 | sq,p::l,num,pl,out=>
   let r:=rH (kL p num) p.mn p.mx (dC p) pl
   if sq then pI sq l (num+dh p) (dB r.1 out r.2) (fG out r.2)
   else pI sq l (num+dh p) r.1 ⟨out.first++r.2.first,out.last++r.2.last,out.empty||r.2.empty⟩
end
def fV(p:aJ)(num:Nat)(pl:List aU):List aU×dR:=rH (kL p num) p.mn p.mx (dC p) pl
structure eQ where
 elems:List (List Nm)
 places:List aU
 first:List Nat
 last:List Nat
 empty:Bool
 all:List aJ
def eU(elems:List (List Nm))(p:aJ):eQ:=
 if p.kind=5 then ⟨elems,[],[],[],false,p.args⟩
 else ⟨elems,(fV p 0 []).1,(fV p 0 []).2.first,(fV p 0 []).2.last,(fV p 0 []).2.empty,[]⟩
structure Stp where
 dst:Nat
 num:Nat
 leaf:aJ
def qH:List aJ->Nat->Nat->Nat->Nat->List Stp
 | [],_,_,_,_=>[]
 | p::l,s,i,unit,rest=>(if ((rest % 4:Nat):Int)<p.mx then [⟨s+unit,i+1,p⟩] else [])++qH l s (i+1) (4*unit) (rest / 4)
def CP(pl:List aU)(i:Nat):List Stp:=match pl[i]? with
 | some q=>[⟨i+1,q.num,q.leaf⟩]
 | none=>[]
def ku(m:eQ)(s:Nat):List Nat:=if s=0 then m.first else match m.places[s - 1]? with
 | some q=>q.follow
 | none=>[]
def gK(m:eQ)(s:Nat):List Stp:=
 if m.all.isEmpty then (ku m s).flatMap (CP m.places) else qH m.all s 0 1 s
def II:List aJ->Nat->Bool
 | [],_=>true
 | p::l,s=>decide (p.mn<=((s % 4:Nat):Int))&&decide (((s % 4:Nat):Int)<=p.mx)&&II l (s / 4)
def wH(m:eQ)(s:Nat):Bool:=
 if m.all.isEmpty then (decide (s=0)&&m.empty)||m.last.any (λi=>decide (i+1=s)) else II m.all s
def elemAt(elems:List (List Nm))(i:Int):List Nm:=(elems[i.toNat]?).getD []
def Gf(elems:List (List Nm))(p:aJ)(n:Nm):Bool:=
 if p.kind=1 then (elemAt elems p.el).any (eqN n)
 else (xg (xO p.cls) (jJ n.1 n.2) (pK p.cls n.1 n.2)).1&&decide ((xg (xO p.cls) (jJ n.1 n.2) (pK p.cls n.1 n.2)).2=0)
def Ey(x:Nat):List Nat->List Nat
 | []=>[x]
 | y::l=>if x<y then x::y::l else if x=y then y::l else y::Ey x l
def sset(l:List Nat):List Nat:=l.foldr Ey []
def IJ(m:eQ)(n:Nm)(s:Nat):List Nat:=((gK m s).filter λx=>Gf m.elems x.leaf n).map (·.dst)
def lZ(m:eQ)(set:List Nat)(n:Nm):List Nat:=sset (set.flatMap (IJ m n))
theorem Vh{x y:Nat}:∀{l:List Nat},y∈Ey x l↔y=x\/y∈l
 | []=>by simp[Ey]
 | z::l=>by
   rw[Ey]
   split
   ·simp
   ·split
    ·rename_i h;subst h;simp
    ·rw[z15,Vh,z15,or_left_comm]
theorem wI{y:Nat}:∀{l:List Nat},y∈sset l↔y∈l
 | []=>by simp[sset]
 | z::l=>by
   show y∈Ey z (sset l)↔_;rw[Vh,wI,z15]
theorem Un{x:Nat}:∀{l:List Nat},l.Pairwise (· < ·)->(Ey x l).Pairwise (· < ·)
 | [],_=>by simp[Ey]
 | z::l,h=>by
   rw[List.pairwise_cons] at h;rw[Ey]
   split
   ·rename_i hx
    rw[List.pairwise_cons,List.pairwise_cons];refine⟨λa ha=>?_,h⟩
    rcases List.mem_cons.1 ha with rfl | ha
    ·exact hx
    ·exact Nat.lt_trans hx (h.1 a ha)
   ·split
    ·rw[List.pairwise_cons];exact h
    ·rename_i h1 h2
     rw[List.pairwise_cons];refine⟨λa ha=>?_,Un h.2⟩
     rcases Vh.1 ha with rfl | ha
     ·omega
     ·exact h.1 a ha
theorem qW:∀(l:List Nat),(sset l).Pairwise (· < ·)
 | []=>List.Pairwise.nil
 | z::l=>Un (qW l)
theorem WG:∀{a b:List Nat},a.Pairwise (· < ·)->b.Pairwise (· < ·)->(∀x,x∈a↔x∈b)->a=b
 | [],[],_,_,_=>rfl
 | [],y::b,_,_,h=>by have:=(h y).2 zP;simp at this
 | x::a,[],_,_,h=>by have:=(h x).1 zP;simp at this
 | x::a,y::b,ha,hb,h=>by
   rw[List.pairwise_cons] at ha hb
   have hxy:x=y:=by
    rcases List.mem_cons.1 ((h x).1 zP) with e | e
    ·exact e
    ·rcases List.mem_cons.1 ((h y).2 zP) with e' | e'
     ·exact e'.symm
     ·have:=ha.1 y e';have:=hb.1 x e;omega
   subst hxy;rw[WG ha.2 hb.2 λz=>?_];constructor
   ·intro hz
    rcases List.mem_cons.1 ((h z).1 (List.mem_cons_of_mem _ hz)) with rfl | e
    ·exact absurd (ha.1 z hz) (Nat.lt_irrefl _)
    ·exact e
   ·intro hz
    rcases List.mem_cons.1 ((h z).2 (List.mem_cons_of_mem _ hz)) with rfl | e
    ·exact absurd (hb.1 z hz) (Nat.lt_irrefl _)
    ·exact e
abbrev LI:=Nat×aJ
def yO(pl:List aU)(i j:Nat):Prop:=∃q,pl[i]?=some q/\j∈q.follow
def sG(pl:List aU)(i:Nat):Option LI:=(pl[i]?).map λq=>(q.num,q.leaf)
inductive xk (pl:List aU) (last:List Nat):Nat->List LI->Prop
 | stop {i:Nat}:i∈last->xk pl last i []
 | go {i j:Nat} {l:LI} {w:List LI}:yO pl i j->sG pl j=some l->xk pl last j w->xk pl last i (l::w)
def Acc(pl:List aU)(s:dR)(w:List LI):Prop:=(w=[]/\s.empty=true)\/∃j l v,j∈s.first/\sG pl j=some l/\w=l::v/\xk pl s.last j v
def qO(L M:List LI->Prop)(w:List LI):Prop:=∃u v,w=u++v/\L u/\M v
def qP(L:List LI->Prop):Nat->List LI->Prop
 | 0=>λw=>w=[]
 | n+1=>qO L (qP L n)
structure Seg (pl:List aU) (S:Nat->Prop) (s:dR):Prop where
 lt:∀i,S i->i<pl.length
 first:∀i∈s.first,S i
 last:∀i∈s.last,S i
 qI:∀i j,S i->yO pl i j->S j
structure uu (pl:List aU) (S:Nat->Prop) (s:dR) (L:List LI->Prop):Prop where
 fF:Seg pl S s
 acc:∀w,Acc pl s w↔L w
theorem Bo(pl:List aU)(f:List Nat)(i k:Nat):(tZ pl f i)[k]?=if i=k then (pl[k]?).map λq=>{ q with follow:=q.follow++f } else pl[k]?:=by
 unfold tZ;rw[List.getElem?_modify]
 split<;>simp
theorem Vj(pl:List aU)(f:List Nat)(i:Nat):(tZ pl f i).length=pl.length:=by unfold tZ;simp
theorem amA(pl:List aU)(f:List Nat)(i k:Nat):sG (tZ pl f i) k=sG pl k:=by
 unfold sG;rw[Bo]
 split
 ·cases pl[k]?<;>rfl
 ·rfl
theorem amB(pl:List aU)(f:List Nat)(i k j:Nat):yO (tZ pl f i) k j↔yO pl k j\/(i=k/\k<pl.length/\j∈f):=by
 unfold yO;rw[Bo];constructor
 ·rintro⟨q,h1,h2⟩
  split at h1
  ·rename_i hik
   cases hq:pl[k]? with
   | none=>rw[hq] at h1;cases h1
   | some q0=>
     rw[hq] at h1;simp only[Option.map_some,Option.some.injEq] at h1;subst h1
     rcases List.mem_append.1 h2 with h2 | h2
     ·exact .inl ⟨q0,rfl,h2⟩
     ·exact .inr ⟨hik,(List.getElem?_eq_some_iff.1 hq).1,h2⟩
  ·exact .inl ⟨q,h1,h2⟩
 ·rintro (⟨q,h1,h2⟩ | ⟨h1,h2,h3⟩)
  ·by_cases hik:i=k
   ·rw[if_pos hik,h1]
    exact⟨_,rfl,List.mem_append.2 (.inl h2)⟩
   ·rw[if_neg hik]
    exact⟨q,h1,h2⟩
  ·rw[if_pos h1,z6 h2]
   exact⟨_,rfl,List.mem_append.2 (.inr h3)⟩
theorem Vk(f:List Nat):∀(l:List Nat) (pl:List aU),(l.foldl (λpl i=>tZ pl f i) pl).length=pl.length
 | [],_=>rfl
 | i::l,pl=>by rw[List.foldl_cons,Vk f l,Vj]
theorem ab3(f:List Nat):∀(l:List Nat) (pl:List aU) (k:Nat),sG (l.foldl (λpl i=>tZ pl f i) pl) k=sG pl k
 | [],_,_=>rfl
 | i::l,pl,k=>by rw[List.foldl_cons,ab3 f l,amA]
theorem ab4(f:List Nat):∀(l:List Nat) (pl:List aU) (k j:Nat),yO (l.foldl (λpl i=>tZ pl f i) pl) k j↔yO pl k j\/(k∈l/\k<pl.length/\j∈f)
 | [],_,_,_=>by simp
 | i::l,pl,k,j=>by
   rw[List.foldl_cons,ab4 f l,amB,Vj,z15];constructor
   ·rintro ((h | ⟨h1,h2,h3⟩) | ⟨h1,h2,h3⟩)
    ·exact .inl h
    ·exact .inr ⟨.inl h1.symm,h2,h3⟩
    ·exact .inr ⟨.inr h1,h2,h3⟩
   ·rintro (h | ⟨h1 | h1,h2,h3⟩)
    ·exact .inl (.inl h)
    ·exact .inl (.inr ⟨h1.symm,h2,h3⟩)
    ·exact .inr ⟨h1,h2,h3⟩
theorem mf(pl:List aU)(x y:dR):(dB pl x y).length=pl.length:=Vk _ _ _
theorem kZ(pl:List aU)(x y:dR)(k:Nat):sG (dB pl x y) k=sG pl k:=ab3 _ _ _ _
theorem pM(pl:List aU)(x y:dR)(k j:Nat):yO (dB pl x y) k j↔yO pl k j\/(k∈x.last/\k<pl.length/\j∈y.first):=ab4 _ _ _ _ _
theorem xk.frame{pl JF:List aU}{S:Nat->Prop}{last:List Nat}(hc:∀i j,S i->yO pl i j->S j)(hf:∀i j,S i->(yO JF i j↔yO pl i j))(hl:∀i,S i->sG JF i=sG pl i){i:Nat}{w:List LI}(hi:S i)(h:xk pl last i w):xk JF last i w:=by
 induction h with
 | stop h=>exact .stop h
 | go h1 h2 _ ih=>
   have hj:=hc _ _ hi h1;exact .go ((hf _ _ hi).2 h1) ((hl _ hj).trans h2) (ih hj)
theorem uu.frame{pl JF:List aU}{S:Nat->Prop}{s:dR}{L:List LI->Prop}(h:uu pl S s L)(hlen:pl.length<=JF.length)(hf:∀i j,S i->(yO JF i j↔yO pl i j))(hl:∀i,S i->sG JF i=sG pl i):uu JF S s L:=by
 refine⟨⟨λi hi=>Nat.lt_of_lt_of_le (h.fF.lt i hi) hlen,h.fF.first,h.fF.last,λi j hi hj=>h.fF.qI i j hi ((hf i j hi).1 hj)⟩,λw=>?_⟩;rw[<-h.acc w];unfold Acc;constructor
 ·rintro (h1 | ⟨j,l,v,h1,h2,h3,h4⟩)
  ·exact .inl h1
  ·have hj:=h.fF.first j h1
   exact .inr ⟨j,l,v,h1,(hl j hj).symm.trans h2,h3,h4.frame (λi j hi hj=>h.fF.qI i j hi ((hf i j hi).1 hj)) (λi j hi=>(hf i j hi).symm) (λi hi=>(hl i hi).symm) hj⟩
 ·rintro (h1 | ⟨j,l,v,h1,h2,h3,h4⟩)
  ·exact .inl h1
  ·have hj:=h.fF.first j h1
   exact .inr ⟨j,l,v,h1,(hl j hj).trans h2,h3,h4.frame h.fF.qI hf hl hj⟩
theorem uu.wide{pl:List aU}{S S':Nat->Prop}{s:dR}{L:List LI->Prop}(h:uu pl S s L)(hS:∀i,S i↔S' i):uu pl S' s L:=by
 obtain rfl:S=S':=funext λi=>propext (hS i);exact h
theorem uu.join{pl:List aU}{S T:Nat->Prop}{x y:dR}{L M:List LI->Prop}(hx:uu pl S x L)(hy:uu pl T y M)(hd:∀i,S i->¬T i):
 uu (dB pl x y) (λi=>S i\/T i) (fG x y) (qO L M):=by
 have ex:∀i,i∈x.last->¬T i:=λi hi=>hd i (hx.fF.last i hi);have ey:∀i,i∈y.last->¬S i:=λi hi hs=>hd i hs (hy.fF.last i hi)
 have ab5:∀i,i∈(fG x y).last↔i∈y.last\/(y.empty=true/\i∈x.last):=λi=>by
  unfold fG;simp only[z12];cases y.empty<;>simp
 have ahi:∀i,i∈(fG x y).first↔i∈x.first\/(x.empty=true/\i∈y.first):=λi=>by
  unfold fG;simp only[z12];cases x.empty<;>simp
 have A1:∀{i:Nat} {w:List LI},xk (dB pl x y) (fG x y).last i w->T i->xk pl y.last i w:=by
  intro i w h
  induction h with
  | stop h=>
    intro hi
    rcases (ab5 _).1 h with h | ⟨_,h⟩
    ·exact .stop h
    ·exact absurd hi (ex _ h)
  | go h1 h2 _ ih=>
    intro hi;rw[kZ] at h2
    rcases (pM _ _ _ _ _).1 h1 with h1 | ⟨h1,_⟩
    ·exact .go h1 h2 (ih (hy.fF.qI _ _ hi h1))
    ·exact absurd hi (ex _ h1)
 have A2:∀{i:Nat} {w:List LI},xk pl y.last i w->xk (dB pl x y) (fG x y).last i w:=by
  intro i w h
  induction h with
  | stop h=>exact .stop ((ab5 _).2 (.inl h))
  | go h1 h2 _ ih=>exact .go ((pM _ _ _ _ _).2 (.inl h1)) (by rw[kZ];exact h2) ih
 have B1:∀{i:Nat} {w:List LI},xk (dB pl x y) (fG x y).last i w->S i->∃u v,w=u++v/\xk pl x.last i u/\Acc pl y v:=by
  intro i w h
  induction h with
  | stop h=>
    intro hi
    rcases (ab5 _).1 h with h | ⟨h0,h⟩
    ·exact absurd hi (ey _ h)
    ·exact⟨[],[],rfl,.stop h,.inl ⟨rfl,h0⟩⟩
  | @go i j l w h1 h2 h3 ih=>
    intro hi;rw[kZ] at h2
    rcases (pM _ _ _ _ _).1 h1 with h1 | ⟨h1,_,h4⟩
    ·obtain⟨u,v,e,a,b⟩:=ih (hx.fF.qI _ _ hi h1)
     exact⟨l::u,v,by rw[e];rfl,.go h1 h2 a,b⟩
    ·exact⟨[],l::w,rfl,.stop h1,.inr ⟨j,l,w,h4,h2,rfl,A1 h3 (hy.fF.first _ h4)⟩⟩
 have B2:∀{i:Nat} {u v:List LI},xk pl x.last i u->S i->Acc pl y v->xk (dB pl x y) (fG x y).last i (u++v):=by
  intro i u v h
  induction h with
  | stop h=>
    intro hi ha
    rcases ha with ⟨rfl,h0⟩ | ⟨j,l,v',h1,h2,rfl,h3⟩
    ·exact .stop ((ab5 _).2 (.inr ⟨h0,h⟩))
    ·exact .go ((pM _ _ _ _ _).2 (.inr ⟨h,hx.fF.lt _ hi,h1⟩)) (by rw[kZ];exact h2) (A2 h3)
  | go h1 h2 _ ih=>
    intro hi ha;exact .go ((pM _ _ _ _ _).2 (.inl h1)) (by rw[kZ];exact h2) (ih (hx.fF.qI _ _ hi h1) ha)
 refine⟨⟨?_,?_,?_,?_⟩,λw=>?_⟩
 ·intro i hi
  rw[mf]
  rcases hi with hi | hi
  ·exact hx.fF.lt i hi
  ·exact hy.fF.lt i hi
 ·intro i hi
  rcases (ahi i).1 hi with hi | ⟨_,hi⟩
  ·exact .inl (hx.fF.first i hi)
  ·exact .inr (hy.fF.first i hi)
 ·intro i hi
  rcases (ab5 i).1 hi with hi | ⟨_,hi⟩
  ·exact .inr (hy.fF.last i hi)
  ·exact .inl (hx.fF.last i hi)
 ·intro i j hi hj
  rcases (pM _ _ _ _ _).1 hj with hj | ⟨_,_,hj⟩
  ·rcases hi with hi | hi
   ·exact .inl (hx.fF.qI i j hi hj)
   ·exact .inr (hy.fF.qI i j hi hj)
  ·exact .inr (hy.fF.first j hj)
 ·have aA8:qO L M w↔∃u v,w=u++v/\Acc pl x u/\Acc pl y v:=by
   unfold qO;constructor
   ·rintro⟨u,v,e,a,b⟩;exact⟨u,v,e,(hx.acc u).2 a,(hy.acc v).2 b⟩
   ·rintro⟨u,v,e,a,b⟩;exact⟨u,v,e,(hx.acc u).1 a,(hy.acc v).1 b⟩
  rw[aA8];constructor
  ·rintro (⟨rfl,h⟩ | ⟨j,l,v,h1,h2,rfl,h3⟩)
   ·have h':(x.empty&&y.empty)=true:=h
    rw[z7] at h';exact⟨[],[],rfl,.inl ⟨rfl,h'.1⟩,.inl ⟨rfl,h'.2⟩⟩
   ·rw[kZ] at h2
    rcases (ahi j).1 h1 with h1 | ⟨h0,h1⟩
    ·obtain⟨u,v',e,a,b⟩:=B1 h3 (hx.fF.first j h1)
     exact⟨l::u,v',by rw[e];rfl,.inr ⟨j,l,u,h1,h2,rfl,a⟩,b⟩
    ·exact⟨[],l::v,rfl,.inl ⟨rfl,h0⟩,.inr ⟨j,l,v,h1,h2,rfl,A1 h3 (hy.fF.first j h1)⟩⟩
  ·rintro⟨u,v,rfl,(⟨rfl,h0⟩ | ⟨j,l,u',h1,h2,rfl,h3⟩),hb⟩
   ·rcases hb with ⟨rfl,h0'⟩ | ⟨j,l,v',h1,h2,rfl,h3⟩
    ·exact .inl ⟨rfl,by show (x.empty&&y.empty)=true;rw[h0,h0'];rfl⟩
    ·exact .inr ⟨j,l,v',(ahi j).2 (.inr ⟨h0,h1⟩),by rw[kZ];exact h2,rfl,A2 h3⟩
   ·exact .inr ⟨j,l,u'++v,(ahi j).2 (.inl h1),by rw[kZ];exact h2,rfl,B2 h3 (hx.fF.first j h1) hb⟩
theorem uu.star{pl:List aU}{S:Nat->Prop}{x:dR}{L:List LI->Prop}(hx:uu pl S x L):
 uu (dB pl x x) S { x with empty:=true } (λw=>∃n,qP L n w):=by
 have A:∀{i:Nat} {w:List LI},xk (dB pl x x) x.last i w->S i->∃u v n,w=u++v/\xk pl x.last i u/\qP L n v:=by
  intro i w h
  induction h with
  | stop h=>intro _;exact⟨[],[],0,rfl,.stop h,rfl⟩
  | @go i j l w h1 h2 h3 ih=>
    intro hi;rw[kZ] at h2
    rcases (pM _ _ _ _ _).1 h1 with h1 | ⟨h1,_,h4⟩
    ·obtain⟨u,v,n,e,a,b⟩:=ih (hx.fF.qI _ _ hi h1)
     exact⟨l::u,v,n,by rw[e];rfl,.go h1 h2 a,b⟩
    ·obtain⟨u,v,n,e,a,b⟩:=ih (hx.fF.first _ h4)
     exact⟨[],l::w,n+1,rfl,.stop h1,l::u,v,by rw[e];rfl,(hx.acc _).1 (.inr ⟨j,l,u,h4,h2,rfl,a⟩),b⟩
 have B:∀(n:Nat) {i:Nat} {u v:List LI},xk pl x.last i u->S i->qP L n v->xk (dB pl x x) x.last i (u++v):=by
  intro n
  induction n with
  | zero=>
    intro i u v h hi hv;obtain rfl:v=[]:=hv;rw[List.append_nil]
    induction h with
    | stop h=>exact .stop h
    | go h1 h2 _ ih=>exact .go ((pM _ _ _ _ _).2 (.inl h1)) (by rw[kZ];exact h2) (ih (hx.fF.qI _ _ hi h1))
  | succ n ihn=>
    intro i u v h
    induction h with
    | @stop i h=>
      rintro hi ⟨v1,v2,rfl,h1,h2⟩
      rcases (hx.acc v1).2 h1 with ⟨rfl,_⟩ | ⟨j,l,v',a1,a2,rfl,a3⟩
      ·exact ihn (.stop h) hi h2
      ·exact .go ((pM _ _ _ _ _).2 (.inr ⟨h,hx.fF.lt _ hi,a1⟩)) (by rw[kZ];exact a2) (ihn a3 (hx.fF.first _ a1) h2)
    | go h1 h2 _ ih=>
      intro hi hv;exact .go ((pM _ _ _ _ _).2 (.inl h1)) (by rw[kZ];exact h2) (ih (hx.fF.qI _ _ hi h1) hv)
 refine⟨⟨λi hi=>by rw[mf];exact hx.fF.lt i hi,hx.fF.first,hx.fF.last,λi j hi hj=>?_⟩,λw=>?_⟩
 ·rcases (pM _ _ _ _ _).1 hj with hj | ⟨_,_,hj⟩
  ·exact hx.fF.qI i j hi hj
  ·exact hx.fF.first j hj
 ·constructor
  ·rintro (⟨rfl,_⟩ | ⟨j,l,v,h1,h2,rfl,h3⟩)
   ·exact⟨0,rfl⟩
   ·rw[kZ] at h2
    obtain⟨u,v',n,e,a,b⟩:=A h3 (hx.fF.first j h1);exact⟨n+1,l::u,v',by rw[e];rfl,(hx.acc _).1 (.inr ⟨j,l,u,h1,h2,rfl,a⟩),b⟩
  ·rintro⟨n,hn⟩
   induction n generalizing w with
   | zero=>exact .inl ⟨hn,rfl⟩
   | succ n ih=>
     obtain⟨v1,v2,rfl,h1,h2⟩:=hn
     rcases (hx.acc v1).2 h1 with ⟨rfl,_⟩ | ⟨j,l,v',a1,a2,rfl,a3⟩
     ·exact ih v2 h2
     ·exact .inr ⟨j,l,v'++v2,a1,by rw[kZ];exact a2,rfl,B n a3 (hx.fF.first j a1) h2⟩
def Gg(L:List LI->Prop)(mn mx:Int)(w:List LI):Prop:=∃n:Nat,mn<=n/\(mx= -1\/(n:Int)<=mx)/\qP L n w
mutual
def rW:aJ->Nat->List LI->Prop
 | .mk k mn mx el c pr args,num=>λw=>if fD k=true then w=[(num,.mk k mn mx el c pr args)] else if k=3 then NG args (num+1) w else JG args (num+1) w
def NG:List aJ->Nat->List LI->Prop
 | [],_=>λw=>w=[]
 | p::l,num=>qO (Gg (rW p num) p.mn p.mx) (NG l (num+dh p))
def JG:List aJ->Nat->List LI->Prop
 | [],_=>λ_=>False
 | p::l,num=>λw=>Gg (rW p num) p.mn p.mx w\/JG l (num+dh p) w
end
mutual
def kR:aJ->Bool
 | .mk k mn mx _ _ _ args=>bU mn mx&&((fD k&&args.isEmpty)||(decide (k=3)&&oz args)||(decide (k=4)&&!args.isEmpty&&oz args))
def oz:List aJ->Bool
 | []=>true
 | p::l=>kR p&&oz l
end
mutual
def lJ:aJ->Nat
 | .mk k mn mx _ _ _ args=>((if fD k then 1 else 0)+kF args)*(if mx= -1 then mn.toNat+1 else mx.toNat)
def kF:List aJ->Nat
 | []=>0
 | p::l=>lJ p+kF l
end
theorem ab6{L L' M M':List LI->Prop}(h1:∀w,L w↔L' w)(h2:∀w,M w↔M' w)(w:List LI):qO L M w↔qO L' M' w:=by
 unfold qO;constructor
 ·rintro⟨u,v,e,a,b⟩;exact⟨u,v,e,(h1 u).1 a,(h2 v).1 b⟩
 ·rintro⟨u,v,e,a,b⟩;exact⟨u,v,e,(h1 u).2 a,(h2 v).2 b⟩
theorem NH(L:List LI->Prop)(w:List LI):qO (λv=>v=[]) L w↔L w:=by
 constructor
 ·rintro⟨u,v,rfl,rfl,h⟩;exact h
 ·intro h;exact⟨[],w,rfl,rfl,h⟩
theorem Zw(L:List LI->Prop)(w:List LI):qO L (λv=>v=[]) w↔L w:=by
 constructor
 ·rintro⟨u,v,rfl,h,rfl⟩;rw[List.append_nil];exact h
 ·intro h;exact⟨w,[],zP,h,rfl⟩
theorem NI(L M N:List LI->Prop)(w:List LI):qO (qO L M) N w↔qO L (qO M N) w:=by
 constructor
 ·rintro⟨_,v,rfl,⟨a,b,rfl,h1,h2⟩,h3⟩;exact⟨a,b++v,zP,h1,b,v,rfl,h2,h3⟩
 ·rintro⟨a,_,rfl,h1,⟨b,v,rfl,h2,h3⟩⟩;exact⟨a++b,v,zP,⟨a,b,rfl,h1,h2⟩,h3⟩
theorem IL(L:List LI->Prop):∀(a b:Nat) (w:List LI),qP L (a+b) w↔qO (qP L a) (qP L b) w
 | 0,b,w=>by
   rw[Nat.zero_add];exact(NH (qP L b) w).symm
 | a+1,b,w=>by
   rw[show a+1+b=(a+b)+1 by omega];show qO L (qP L (a+b)) w↔qO (qO L (qP L a)) (qP L b) w;rw[NI];exact ab6 (λ_=>Iff.rfl) (IL L a b) w
theorem uu.wJ{pl:List aU}{S:Nat->Prop}{s:dR}{L L':List LI->Prop}(h:uu pl S s L)(hL:∀w,L w↔L' w):uu pl S s L':=⟨h.fF,λw=>(h.acc w).trans (hL w)⟩
theorem uu.opt{pl:List aU}{S:Nat->Prop}{s:dR}{L:List LI->Prop}(h:uu pl S s L):uu pl S { s with empty:=true } (λw=>w=[]\/L w):=by
 refine⟨⟨h.fF.lt,h.fF.first,h.fF.last,h.fF.qI⟩,λw=>?_⟩;rw[<-h.acc w];unfold Acc;constructor
 ·rintro (⟨h1,_⟩ | h1)
  ·exact .inl h1
  ·exact .inr (.inr h1)
 ·rintro (h1 | ⟨h1,_⟩ | h1)
  ·exact .inl ⟨h1,rfl⟩
  ·exact .inl ⟨h1,rfl⟩
  ·exact .inr h1
theorem uu.none(pl:List aU):uu pl (λ_=>False) oN (λw=>w=[]):=by
 refine⟨⟨λ_ h=>h.elim,λi h=>by simp[oN] at h,λi h=>by simp[oN] at h,λ_ _ h=>h.elim⟩,λw=>?_⟩;constructor
 ·rintro (⟨h,_⟩ | ⟨j,_,_,h,_⟩)
  ·exact h
  ·simp[oN] at h
 ·intro h;exact .inl ⟨h,rfl⟩
theorem uu.or{pl:List aU}{S T:Nat->Prop}{x y:dR}{L M:List LI->Prop}(hx:uu pl S x L)(hy:uu pl T y M)(hd:∀i,S i->¬T i):
 uu pl (λi=>S i\/T i) ⟨x.first++y.first,x.last++y.last,x.empty||y.empty⟩ (λw=>L w\/M w):=by
 have up:∀{a b:List Nat} {i:Nat} {w:List LI},(∀k∈a,k∈b)->xk pl a i w->xk pl b i w:=by
  intro a b i w nz h
  induction h with
  | stop h=>exact .stop (nz _ h)
  | go h1 h2 _ ih=>exact .go h1 h2 ih
 have dx:∀{i:Nat} {w:List LI},xk pl (x.last++y.last) i w->S i->xk pl x.last i w:=by
  intro i w h
  induction h with
  | stop h=>
    intro hi
    rcases List.mem_append.1 h with h | h
    ·exact .stop h
    ·exact absurd (hy.fF.last _ h) (hd _ hi)
  | go h1 h2 _ ih=>intro hi;exact .go h1 h2 (ih (hx.fF.qI _ _ hi h1))
 have dy:∀{i:Nat} {w:List LI},xk pl (x.last++y.last) i w->T i->xk pl y.last i w:=by
  intro i w h
  induction h with
  | stop h=>
    intro hi
    rcases List.mem_append.1 h with h | h
    ·exact absurd hi (hd _ (hx.fF.last _ h))
    ·exact .stop h
  | go h1 h2 _ ih=>intro hi;exact .go h1 h2 (ih (hy.fF.qI _ _ hi h1))
 refine⟨⟨?_,?_,?_,?_⟩,λw=>?_⟩
 ·rintro i (h | h)
  ·exact hx.fF.lt i h
  ·exact hy.fF.lt i h
 ·intro i h
  rcases List.mem_append.1 h with h | h
  ·exact .inl (hx.fF.first i h)
  ·exact .inr (hy.fF.first i h)
 ·intro i h
  rcases List.mem_append.1 h with h | h
  ·exact .inl (hx.fF.last i h)
  ·exact .inr (hy.fF.last i h)
 ·rintro i j (h | h) hj
  ·exact .inl (hx.fF.qI i j h hj)
  ·exact .inr (hy.fF.qI i j h hj)
 ·rw[<-hx.acc w,<-hy.acc w]
  constructor
  ·rintro (⟨rfl,h⟩ | ⟨j,l,v,h1,h2,h3,h4⟩)
   ·have h':(x.empty||y.empty)=true:=h
    rw[Bool.or_eq_true] at h'
    rcases h' with h' | h'
    ·exact .inl (.inl ⟨rfl,h'⟩)
    ·exact .inr (.inl ⟨rfl,h'⟩)
   ·rcases List.mem_append.1 h1 with h1 | h1
    ·exact .inl (.inr ⟨j,l,v,h1,h2,h3,dx h4 (hx.fF.first j h1)⟩)
    ·exact .inr (.inr ⟨j,l,v,h1,h2,h3,dy h4 (hy.fF.first j h1)⟩)
  ·rintro ((⟨rfl,h⟩ | ⟨j,l,v,h1,h2,h3,h4⟩) | (⟨rfl,h⟩ | ⟨j,l,v,h1,h2,h3,h4⟩))
   ·exact .inl ⟨rfl,by show (x.empty||y.empty)=true;rw[h];rfl⟩
   ·exact .inr ⟨j,l,v,List.mem_append.2 (.inl h1),h2,h3,up (λk hk=>List.mem_append.2 (.inl hk)) h4⟩
   ·exact .inl ⟨rfl,by show (x.empty||y.empty)=true;rw[h];simp⟩
   ·exact .inr ⟨j,l,v,List.mem_append.2 (.inr h1),h2,h3,up (λk hk=>List.mem_append.2 (.inr hk)) h4⟩
theorem Vl(f:List Nat):∀(l:List Nat) (pl:List aU) (k:Nat),k ∉ l->(l.foldl (λpl i=>tZ pl f i) pl)[k]?=pl[k]?
 | [],_,_,_=>rfl
 | i::l,pl,k,h=>by
   rw[z15,not_or] at h;rw[List.foldl_cons,Vl f l _ _ h.2,Bo,if_neg (Ne.symm h.1)]
theorem Fq{pl:List aU}{x y:dR}{k:Nat}(h:k ∉ x.last):(dB pl x y)[k]?=pl[k]?:=Vl _ _ _ _ h
structure Made (b:Nat) (pl0:List aU) (r:List aU×dR) (L:List LI->Prop):Prop where
 base:b<=r.1.length
 pre:∀i,i<b->r.1[i]?=pl0[i]?
 ok:uu r.1 (λi=>b<=i/\i<r.1.length) r.2 L
theorem ae4{pl JF:List aU}{i:Nat}(h:JF[i]?=pl[i]?)(j:Nat):yO JF i j↔yO pl i j:=by unfold yO;rw[h]
theorem ae5{pl JF:List aU}{i:Nat}(h:JF[i]?=pl[i]?):sG JF i=sG pl i:=by unfold sG;rw[h]
theorem Made.wJ{b:Nat}{pl0:List aU}{r:List aU×dR}{L L':List LI->Prop}(h:Made b pl0 r L)(hL:∀w,L w↔L' w):Made b pl0 r L':=⟨h.base,h.pre,h.ok.wJ hL⟩
theorem Made.two{b:Nat}{pl0:List aU}{x:List aU×dR}{y:List aU×dR}{L M:List LI->Prop}(hx:Made b pl0 x L)(hy:Made x.1.length x.1 y M):
 b<=y.1.length/\(∀i,i<b->y.1[i]?=pl0[i]?)/\uu y.1 (λi=>b<=i/\i<x.1.length) x.2 L:=by
 refine⟨zT hx.base hy.base,λi hi=>(hy.pre i (Nat.lt_of_lt_of_le hi hx.base)).trans (hx.pre i hi),?_⟩;exact hx.ok.frame hy.base (λi j hi=>ae4 (hy.pre i hi.2) j) (λi hi=>ae5 (hy.pre i hi.2))
theorem Made.cat{b:Nat}{pl0:List aU}{x:List aU×dR}{y:List aU×dR}{L M:List LI->Prop}(hx:Made b pl0 x L)(hy:Made x.1.length x.1 y M):
 Made b pl0 (dB y.1 x.2 y.2,fG x.2 y.2) (qO L M):=by
 obtain⟨h1,h2,h3⟩:=hx.two hy;refine⟨by show b<=(dB _ _ _).length;rw[mf];exact h1,λi hi=>?_,?_⟩
 ·show (dB _ _ _)[i]?=_
  rw[Fq (λhm=>by have:=h3.fF.last i hm;omega),h2 i hi]
 ·refine (h3.join hy.ok (λi hi hj=>by omega)).wide λi=>?_
  show _↔b<=i/\i<(dB _ _ _).length;rw[mf];have:=hx.base;have:=hy.base;omega
theorem Made.cat'{b:Nat}{pl0:List aU}{x:List aU×dR}{y:List aU×dR}{L M:List LI->Prop}(hx:Made b pl0 x L)(hy:Made x.1.length x.1 y M):
 Made b pl0 (dB y.1 y.2 x.2,fG y.2 x.2) (qO M L):=by
 obtain⟨h1,h2,h3⟩:=hx.two hy;have hb:=hx.base;refine⟨by show b<=(dB _ _ _).length;rw[mf];exact h1,λi hi=>?_,?_⟩
 ·show (dB _ _ _)[i]?=_
  rw[Fq (λhm=>by have:=hy.ok.fF.last i hm;omega),h2 i hi]
 ·refine (hy.ok.join h3 (λi hi hj=>by omega)).wide λi=>?_
  show _↔b<=i/\i<(dB _ _ _).length;rw[mf];have:=hy.base;omega
theorem Made.or{b:Nat}{pl0:List aU}{x:List aU×dR}{y:List aU×dR}{L M:List LI->Prop}(hx:Made b pl0 x L)(hy:Made x.1.length x.1 y M):
 Made b pl0 (y.1,⟨x.2.first++y.2.first,x.2.last++y.2.last,x.2.empty||y.2.empty⟩) (λw=>L w\/M w):=by
 obtain⟨h1,h2,h3⟩:=hx.two hy;refine⟨h1,h2,(h3.or hy.ok (λi hi hj=>by omega)).wide λi=>?_⟩;show _↔b<=i/\i<y.1.length;have:=hx.base;have:=hy.base;omega
theorem Made.nil(pl:List aU):Made pl.length pl (pl,oN) (λw=>w=[]):=
 ⟨zR _,λ_ _=>rfl,(uu.none pl).wide λi=>⟨λh=>h.elim,λh=>by have:pl.length<=i/\i<pl.length:=h;omega⟩⟩
def CS(once:List aU->List aU×dR)(L:List LI->Prop):Prop:=∀pl,Made pl.length pl (once pl) L
theorem JH{once:List aU->List aU×dR}{L:List LI->Prop}(ho:CS once L){b:Nat}{pl0:List aU}:∀(n:Nat) {pl:List aU} {out:dR} {M:List LI->Prop},Made b pl0 (pl,out) M->Made b pl0 (kY once n pl out) (qO M (qP L n))
 | 0,pl,out,M,h=>h.wJ λw=>(Zw M w).symm
 | n+1,pl,out,M,h=>by
   rw[kY];refine (JH ho n (h.cat (ho pl))).wJ λw=>?_;rw[NI];exact Iff.rfl
theorem JI{once:List aU->List aU×dR}{L:List LI->Prop}(ho:CS once L){b:Nat}{pl0:List aU}:∀(n k:Nat) {pl:List aU} {tail:dR},Made b pl0 (pl,tail) (λw=>∃m,m<=k/\qP L m w)->Made b pl0 (mY once n pl tail) (λw=>∃m,m<=n+k/\qP L m w)
 | 0,k,pl,tail,h=>by rw[mY,Nat.zero_add];exact h
 | n+1,k,pl,tail,h=>by
   rw[mY];have h1:=h.cat' (ho pl)
   have h2:Made b pl0 (dB (once pl).1 (once pl).2 tail,{ fG (once pl).2 tail with empty:=true }) (λw=>∃m,m<=k+1/\qP L m w):=by
    refine⟨h1.base,h1.pre,h1.ok.opt.wJ λw=>?_⟩;constructor
    ·rintro (rfl | ⟨u,v,rfl,a,m,hm,c⟩)
     ·exact⟨0,Nat.zero_le _,rfl⟩
     ·exact⟨m+1,Nat.succ_le_succ hm,u,v,rfl,a,c⟩
    ·rintro⟨m,hm,hp⟩
     cases m with
     | zero=>exact .inl hp
     | succ m=>
       obtain⟨u,v,e,a,c⟩:=hp;exact .inr ⟨u,v,e,a,m,Nat.le_of_succ_le_succ hm,c⟩
   rw[show n+1+k=n+(k+1) by omega];exact JI ho n (k+1) h2
theorem Uo{once:List aU->List aU×dR}{L:List LI->Prop}(ho:CS once L){mn mx z:Int}(h0:0<=mn)(hx:mx= -1\/mn<=mx)(hz:z=0->∀w,Gg L mn mx w↔w=[]):CS (rH once mn mx z) (Gg L mn mx):=by
 intro pl;unfold rH
 split
 ·rename_i h
  exact(Made.nil pl).wJ λw=>(hz h w).symm
 ·have h1:=JH ho mn.toNat (Made.nil pl)
  have h1:Made pl.length pl (kY once mn.toNat pl oN) (qP L mn.toNat):=h1.wJ λw=>NH _ w;simp only;obtain⟨a,ha⟩:=zF (kY once mn.toNat pl oN);rw[ha] at h1 ⊢
  split
  ·rename_i hm
   have hb:=ho a.1;obtain⟨bb,dY⟩:=zF (once a.1);rw[dY] at hb ⊢
   have hs:Made a.1.length a.1 (dB bb.1 bb.2 bb.2,{ bb.2 with empty:=true }) (λw=>∃n,qP L n w):=by
    refine⟨by show _<=(dB _ _ _).length;rw[mf];exact hb.base,λi hi=>?_,hb.ok.star.wide λi=>?_⟩
    ·show (dB _ _ _)[i]?=_
     rw[Fq (λhm=>by have:=hb.ok.fF.last i hm;omega),hb.pre i hi]
    ·show _↔_/\i<(dB _ _ _).length
     rw[mf]
   refine (h1.cat hs).wJ λw=>?_;unfold Gg;constructor
   ·rintro⟨u,v,rfl,a1,n,a2⟩
    exact⟨mn.toNat+n,zO,.inl hm,(IL _ _ _ _).2 ⟨u,v,rfl,a1,a2⟩⟩
   ·rintro⟨n,a1,_,a3⟩
    rw[show n=mn.toNat+(n - mn.toNat) by omega,IL] at a3;obtain⟨u,v,e,a4,a5⟩:=a3;exact⟨u,v,e,a4,_,a5⟩
  ·rename_i hm
   have hb:Made a.1.length a.1 (a.1,oN) (λw=>∃m,m<=0/\qP L m w):=(Made.nil a.1).wJ λw=>⟨λh=>⟨0,zR _,h⟩,λ⟨m,h1,h2⟩=>by obtain rfl:m=0:=Nat.le_zero.1 h1;exact h2⟩;have hb:=JI ho (mx - mn).toNat 0 hb;refine (h1.cat hb).wJ λw=>?_;unfold Gg;constructor
   ·rintro⟨u,v,rfl,a1,n,a2,a3⟩
    exact⟨mn.toNat+n,zO,.inr zO,(IL _ _ _ _).2 ⟨u,v,rfl,a1,a3⟩⟩
   ·rintro⟨n,a1,a2,a3⟩
    rw[show n=mn.toNat+(n - mn.toNat) by omega,IL] at a3;obtain⟨u,v,e,a4,a5⟩:=a3;exact⟨u,v,e,a4,_,zO,a5⟩
theorem CU{n:Int}(h0: -9223372036854775808<=n)(h1:n<=9223372036854775807):wrap64 n=n:=by unfold wrap64;omega
theorem rJ{k mn mx el:Int}{c:aT}{pr:Int}{args:List aJ}(h:kR (.mk k mn mx el c pr args)=true):
 (0<=mn/\mn<=20/\(mx= -1\/(mn<=mx/\1<=mx/\mx<=20)))/\((fD k=true/\args=[])\/(k=3/\oz args=true)\/(k=4/\args≠[]/\oz args=true)):=by
 rw[kR,z7] at h;obtain⟨h1,h2⟩:=h;constructor
 ·unfold bU at h1
  simp only[z7,Bool.or_eq_true,z18] at h1;omega
 ·simp only[z7,Bool.or_eq_true,z18,List.isEmpty_iff,Bool.not_eq_true'] at h2
  rcases h2 with (h2 | h2) | h2
  ·exact .inl h2
  ·exact .inr (.inl h2)
  ·refine .inr (.inr ⟨h2.1.1,λe=>?_,h2.2⟩)
   rw[e] at h2;simp at h2
theorem aap{p:aJ}{l:List aJ}(h:oz (p::l)=true):kR p=true/\oz l=true:=by rw[oz,z7] at h;exact h
def rep(mn mx:Int):Nat:=if mx= -1 then mn.toNat+1 else mx.toNat
theorem Yt(k mn mx el:Int)(c:aT)(pr:Int)(args:List aJ):lJ (.mk k mn mx el c pr args)=((if fD k then 1 else 0)+kF args)*rep mn mx:=by rw[lJ];rfl
def CV:List aJ->Nat
 | []=>0
 | p::l=>min (lJ p) 1000+CV l
theorem afD:∀l:List aJ,CV l<=1000*dZ l
 | []=>by rw[CV];omega
 | p::l=>by rw[CV,dZ];have:=afD l;have:=Eu p;omega
theorem ab7:∀l:List aJ,CV l=kF l\/(1000<=CV l/\1000<=kF l)
 | []=>.inl rfl
 | p::l=>by
   rw[CV,kF];have:=ab7 l;omega
mutual
theorem Au:∀p:aJ,kR p=true->dh p<=40->dC p=(min (lJ p) 1000:Nat)
 | .mk k mn mx el c pr args,hg,hn=>by
   obtain⟨⟨h1,h2,h3⟩,h4⟩:=rJ hg;rw[dh] at hn
   have hl:oz args=true:=by
    rcases h4 with ⟨_,rfl⟩ | ⟨_,h⟩ | ⟨_,_,h⟩
    ·rw[oz]
    ·exact h
    ·exact h
   have ha:=QL args (if fD k then 1 else 0) hl (by split<;>omega) zO (by split<;>omega);rw[dC,ha,Yt];have hc:=afD args;have Ar:=ab7 args;obtain⟨t,ht⟩:∃t:Nat,rep mn mx=t:=⟨_,rfl⟩;have ht1:1<=t/\t<=21:=(by rw[<-ht];unfold rep;split<;>omega)
   have hti:(if mx= -1 then wrap64 (mn+1) else mx)=(t:Int):=by
    rw[<-ht];unfold rep
    split
    ·rw[CU zO zO];omega
    ·omega
   rw[hti,ht];obtain⟨z,hz⟩:∃z:Nat,(if fD k=true then 1 else 0)=z:=⟨_,rfl⟩;have xm:z<=1:=(by rw[<-hz];split<;>omega);have hzi:(if fD k=true then (1:Int) else 0)=(z:Int):=(by rw[<-hz];split<;>rfl);rw[hzi,hz];have e:((z:Int)+(CV args:Int))*(t:Int)=(((z+CV args)*t:Nat):Int):=(by push_cast;rfl);rw[e];have hb:(z+CV args)*t<=50000*21:=Nat.mul_le_mul zO ht1.2;rw[CU zO zO]
   rcases Ar with Ar | ⟨GI,Wu⟩
   ·rw[Ar];omega
   ·have g1:1000*1<=(z+CV args)*t:=Nat.mul_le_mul zO ht1.1
    have g2:1000*1<=(z+kF args)*t:=Nat.mul_le_mul zO ht1.1;omega
theorem QL:∀(l:List aJ) (z:Int),oz l=true->0<=z->dZ l<=40->z+1000*dZ l<=50000->oh z l=z+CV l
 | [],z,_,_,_,_=>by rw[oh,CV];simp
 | p::l,z,hg,h0,hn,h1=>by
   obtain⟨g1,g2⟩:=aap hg;rw[dZ] at h1 hn;have hp:=Eu p;have ih:=Au p g1 zO;rw[oh,ih,CU zO zO,QL l _ g2 zO zO zO,CV]
   push_cast
   omega
end
theorem NJ{L:List LI->Prop}(h:∀w,L w↔w=[]):∀(n:Nat) (w:List LI),qP L n w↔w=[]
 | 0,w=>Iff.rfl
 | n+1,w=>by
   constructor
   ·rintro⟨u,v,rfl,a,b⟩
    rw[(h u).1 a,(NJ h n v).1 b];rfl
   ·rintro rfl
    exact⟨[],[],rfl,(h []).2 rfl,(NJ h n []).2 rfl⟩
theorem Vm{L:List LI->Prop}{mn mx:Int}(h:∀w,L w↔w=[])(h0:0<=mn)(hx:mx= -1\/mn<=mx)(w:List LI):Gg L mn mx w↔w=[]:=by
 constructor
 ·rintro⟨n,_,_,hp⟩;exact(NJ h n w).1 hp
 ·rintro rfl
  exact⟨mn.toNat,zO,zO,(NJ h _ []).2 rfl⟩
theorem Zx:∀p:aJ,kR p=true->lJ p=0->∀(num:Nat) (w:List LI),rW p num w↔w=[]:=by
 intro p
 induction p using aJ.ind with
 | h k mn mx el c pr args ih=>
   intro hg hc num w;obtain⟨⟨h1,h2,h3⟩,h4⟩:=rJ hg;rw[Yt] at hc;have ht:1<=rep mn mx:=(by unfold rep;split<;>omega)
   have hz:(if fD k=true then 1 else 0)+kF args=0:=by
    rcases Nat.mul_eq_zero.1 hc with h | h
    ·exact h
    ·omega
   have hk:fD k=false:=by
    cases hh:fD k with
    | false=>rfl
    | true=>rw[hh] at hz;simp at hz
   have GM:kF args=0:=by omega
   have parts:∀(l:List aJ),oz l=true->kF l=0->(∀q∈l,q∈args)->∀q∈l,∀(num:Nat) (w:List LI),Gg (rW q num) q.mn q.mx w↔w=[]:=by
    intro l
    induction l with
    | nil=>intro _ _ _ q hq;simp at hq
    | cons q0 l ihl=>
      intro hg hc hm q hq num w;obtain⟨g1,g2⟩:=aap hg;rw[kF] at hc
      rcases List.mem_cons.1 hq with rfl | hq
      ·have hh:=ih q (hm q zP) g1 zO num
       obtain⟨k',nI,mx',uo,c',pr',args'⟩:=q;obtain⟨⟨a1,a2,a3⟩,_⟩:=rJ g1;exact Vm hh a1 (a3.imp id (·.1)) w
      ·exact ihl g2 zO (λq hq=>hm q (by simp[hq])) q hq num w
   rcases h4 with ⟨h,_⟩ | ⟨rfl,LZ⟩ | ⟨rfl,dD,LZ⟩
   ·rw[hk] at h;cases h
   ·rw[rW]
    simp only[hk,Bool.false_eq_true,if_false,if_true];have hp:=parts args LZ GM (λq hq=>hq);clear parts ih hg hc hz GM LZ;generalize num+1=num
    induction args generalizing num w with
    | nil=>rw[NG]
    | cons q l ihl=>
      rw[NG,ab6 (hp q zP num) (λw=>ihl w (λq hq=>hp q (by simp[hq])) (num+dh q)) w];exact NH _ w
   ·rw[rW]
    simp only[hk,Bool.false_eq_true,if_false];rw[if_neg zD];have hp:=parts args LZ GM (λq hq=>hq);clear parts ih hg hc hz GM LZ;generalize num+1=num
    induction args generalizing num w with
    | nil=>exact absurd rfl dD
    | cons q l ihl=>
      rw[JG];show Gg (rW q num) q.mn q.mx w\/JG l (num+dh q) w↔_;rw[hp q zP num w]
      cases l with
      | nil=>rw[JG];simp
      | cons q2 l2=>
        have e:=ihl w zP (λq hq=>hp q (List.mem_cons_of_mem _ hq)) (num+dh q);exact⟨λh=>h.elim id e.1,λh=>.inl h⟩
theorem Made.never(pl:List aU):Made pl.length pl (pl,⟨[],[],false⟩) (λ_=>False):=by
 refine⟨zR _,λ_ _=>rfl,⟨⟨λi h=>h.2,λi h=>by simp at h,λi h=>by simp at h,λi j h=>by have:pl.length<=i/\i<pl.length:=h;omega⟩,λw=>?_⟩⟩;constructor
 ·rintro (⟨_,h⟩ | ⟨j,_,_,h,_⟩)
  ·cases h
  ·simp at h
 ·intro h;exact h.elim
theorem aju(p:aJ)(num:Nat)(pl:List aU):Made pl.length pl (pl++[⟨p,num,[]⟩],⟨[pl.length],[pl.length],false⟩) (λw=>w=[(num,p)]):=by
 have hg:(pl++[⟨p,num,[]⟩]:List aU)[pl.length]?=some ⟨p,num,[]⟩:=by simp
 have hl:sG (pl++[⟨p,num,[]⟩]) pl.length=some (num,p):=by unfold sG;rw[hg];rfl
 refine⟨zP,λi hi=>z20 hi,⟨⟨λi h=>h.2,λi h=>?_,λi h=>?_,λi j h hj=>?_⟩,λw=>?_⟩⟩
 ·obtain rfl:i=pl.length:=by simpa using h
  simp
 ·obtain rfl:i=pl.length:=by simpa using h
  simp
 ·have h':pl.length<=i/\i<(pl++[⟨p,num,[]⟩]:List aU).length:=h
  rw[z5,z16] at h'
  obtain rfl:i=pl.length:=by omega
  obtain⟨q,h1,h2⟩:=hj;rw[hg] at h1;obtain rfl:=zI h1;simp at h2
 ·constructor
  ·rintro (⟨_,h⟩ | ⟨j,l,v,h1,h2,rfl,h3⟩)
   ·cases h
   ·obtain rfl:j=pl.length:=by simpa using h1
    rw[hl] at h2;obtain rfl:=zI h2
    cases h3 with
    | stop _=>rfl
    | go h4 _ _=>
      obtain⟨q,h5,h6⟩:=h4;rw[hg] at h5;obtain rfl:=zI h5;simp at h6
  ·rintro rfl
   exact .inr ⟨pl.length,_,[],zP,hl,rfl,.stop zP⟩
theorem wK:∀p:aJ,kR p=true->dh p<=40->∀num,CS (kL p num) (rW p num):=by
 intro p
 induction p using aJ.ind with
 | h k mn mx el c pr args ih=>
   intro hg hn num pl;obtain⟨_,h4⟩:=rJ hg;rw[dh] at hn
   have parts:∀q∈args,kR q=true->dh q<=40->∀num,CS (rH (kL q num) q.mn q.mx (dC q)) (Gg (rW q num) q.mn q.mx):=by
    intro q hq g n num;have hh:=ih q hq g n num;have hz:=Zx q g;have Az:=Au q g n;obtain⟨k',nI,mx',uo,c',pr',args'⟩:=q;obtain⟨⟨a1,a2,a3⟩,_⟩:=rJ g;refine Uo hh a1 (a3.imp id (·.1)) λh0 w=>Vm (hz ?_ num) a1 (a3.imp id (·.1)) w;rw[h0] at Az;omega
   rw[kL,rW];by_cases hk:fD k=true
   ·rw[if_pos hk]
    refine (aju _ num pl).wJ λw=>?_;rw[if_pos hk]
   ·rw[if_neg hk]
    rcases h4 with ⟨h,_⟩ | ⟨rfl,LZ⟩ | ⟨rfl,dD,LZ⟩
    ·exact absurd h hk
    ·have key:∀(l:List aJ) (num:Nat) (pl:List aU) (out:dR) (b:Nat) (pl0:List aU) (M:List LI->Prop),(∀q∈l,q∈args)->oz l=true->dZ l<=40->Made b pl0 (pl,out) M->Made b pl0 (pI true l num pl out) (qO M (NG l num)):=by
      intro l
      induction l with
      | nil=>intro num pl out b pl0 M _ _ _ h;rw[pI,NG];exact h.wJ λw=>(Zw M w).symm
      | cons q l ihl=>
        intro num pl out b pl0 M hm hg hn h;obtain⟨g1,g2⟩:=aap hg;rw[dZ] at hn;rw[pI,NG];simp only[if_true];refine (ihl _ _ _ b pl0 _ (λq hq=>hm q (by simp[hq])) g2 zO (h.cat (parts q (hm q zP) g1 zO num pl))).wJ λw=>?_;rw[NI]
     refine (key args (num+1) pl ⟨[],[],decide ((3:Int)=3)⟩ pl.length pl _ (λq hq=>hq) LZ zO (Made.nil pl)).wJ λw=>?_;rw[if_neg hk,if_pos rfl];exact NH _ w
    ·have key:∀(l:List aJ) (num:Nat) (pl:List aU) (out:dR) (b:Nat) (pl0:List aU) (M:List LI->Prop),(∀q∈l,q∈args)->oz l=true->dZ l<=40->Made b pl0 (pl,out) M->Made b pl0 (pI false l num pl out) (λw=>M w\/JG l num w):=by
      intro l
      induction l with
      | nil=>intro num pl out b pl0 M _ _ _ h;rw[pI,JG];exact h.wJ λw=>(or_iff_left (λh=>h)).symm
      | cons q l ihl=>
        intro num pl out b pl0 M hm hg hn h;obtain⟨g1,g2⟩:=aap hg;rw[dZ] at hn;rw[pI,JG];simp only[Bool.false_eq_true,if_false];refine (ihl _ _ _ b pl0 _ (λq hq=>hm q (by simp[hq])) g2 zO (h.or (parts q (hm q zP) g1 zO num pl))).wJ λw=>?_;exact or_assoc
     refine (key args (num+1) pl ⟨[],[],decide ((4:Int)=3)⟩ pl.length pl _ (λq hq=>hq) LZ zO (Made.never pl)).wJ λw=>?_;rw[if_neg hk,if_neg zD];simp
theorem xI{p:aJ}(hg:kR p=true)(hn:dh p<=40)(num:Nat):CS (fV p num) (Gg (rW p num) p.mn p.mx):=by
 have hh:=wK p hg hn num;have hz:=Zx p hg;have Az:=Au p hg hn;unfold fV;obtain⟨k',nI,mx',uo,c',pr',args'⟩:=p;obtain⟨⟨a1,a2,a3⟩,_⟩:=rJ hg;refine Uo hh a1 (a3.imp id (·.1)) λh0 w=>Vm (hz ?_ num) a1 (a3.imp id (·.1)) w;rw[h0] at Az;omega
end Go.Proofs.YtgmnnegfndpakaaGreatDoor
namespace Go.Proofs.YtgmnnegfndpakaaGreatDoor
open Go.RowKit
theorem FC{k:Int}(b2 b4:Nat)(h1:k≠1)(h2:k≠2)(h3:k≠3)(h4:k≠4)(h5:k≠5):dP jL k (ZG b2 b4)=none:=by
 unfold ZG;simp[dP,jL,h1,h2,h3,h4,h5]
theorem QR{n:Int}{top:Bool}{p:aJ}(h1:p.kind≠1)(h2:p.kind≠2)(h3:p.kind≠3)(h4:p.kind≠4)(h5:p.kind≠5):bT n top p=false:=by
 obtain⟨k,mn,mx,el,c,pr,args⟩:=p;have g1:k≠1:=h1;have g2:k≠2:=h2;have g3:k≠3:=h3;have g4:k≠4:=h4;have g5:k≠5:=h5;rw[bT,if_neg g1,if_neg g2,if_neg g3,if_neg g4,if_neg g5]
theorem ahm(W:World):(zeroValue 86).run Tryz.prog W= .ok (.agg #[.nilFunc]) W:=by kernel_rfl
theorem iR{W:World}{gm b2 b4:Nat}(h:gQ W gm vM WT (ZG b2 b4))(k:Int):(Instr.lookup 88 (.map (some gm)) (.int .i64 k) true).run Tryz.prog W= .ok (.tuple #[((dP jL k (ZG b2 b4)).map WT).getD (.agg #[.nilFunc]),.bool (dP jL k (ZG b2 b4)).isSome]) W:=
 qX qJ Tryz.underlying88 ahm h k true
theorem avY(k:Int):∃(fv:Nat->Nat->Value) (is:Bool),(∀W gm b2 b4,gQ W gm vM WT (ZG b2 b4)->(Instr.lookup 88 (.map (some gm)) (.int .i64 k) true).run Tryz.prog W= .ok (.tuple #[.agg #[fv b2 b4],.bool is]) W)/\
 (is=false->(∀b2 b4,fv b2 b4= .nilFunc)/\∀n top p,p.kind=k->bT n top p=false)/\
 (is=true->∃(f:Nat) (cp:Nat->Nat->Array Value),(∀b2 b4,fv b2 b4= .func (.func f) #[] (cp b2 b4))/\(∀(b2 b4:Nat) (x y z:Value) (W:World),(callFunc f (#[x,y,z]++cp b2 b4)).run Tryz.prog W= .ok (.enter f (#[x,y,z]++cp b2 b4)) W)/\
   ∀(nE:Int) (top:Bool) (p:aJ) (w:World),p.kind=k->(∀x∈p.args,EE nE x)->∀b1 b2 b3 b4 gm,lL w b1 b2 b3 b4 gm->∀(cs:List Value) (F:Nat->Prop),au w F (aZ p) cs->
    Rt f (#[.agg cs.toArray,.int .i64 nE,.bool top]++cp b2 b4) w (.bool (bT nE top p))):=by
 by_cases hk:k=1\/k=2\/k=3\/k=4\/k=5
 ·refine⟨λb2 b4=>(dP jL k (ZG b2 b4)).getD .nilFunc,true,λW gm b2 b4 h=>?_,(λh=>by cases h),λ_=>?_⟩
  ·rw[iR h k]
   rcases hk with rfl | rfl | rfl | rfl | rfl<;>rfl
  rcases hk with rfl | rfl | rfl | rfl | rfl
  ·exact⟨108,λ_ _=>#[],λ_ _=>rfl,λ_ _ _ _ _ _=>by kernel_rfl,λnE top p w hk _ _ _ _ _ _ _ cs F h=>by rw[Array.append_empty];exact ZI nE top p w hk cs F h⟩
  ·exact⟨109,λ_ _=>#[],λ_ _=>rfl,λ_ _ _ _ _ _=>by kernel_rfl,λnE top p w hk _ _ _ _ _ _ _ cs F h=>by rw[Array.append_empty];exact ZJ nE top p w hk cs F h⟩
  ·exact⟨110,λb2 b4=>#[.pointer (some ⟨b2,0,none⟩),.pointer (some ⟨b4,0,none⟩)],λ_ _=>rfl,λ_ _ _ _ _ _=>by kernel_rfl,λnE top p w hk hx b1 b2 b3 b4 gm hr cs F h=>by exact ZK nE top p w hk hx b1 b2 b3 b4 gm hr cs F h⟩
  ·exact⟨111,λb2 b4=>#[.pointer (some ⟨b2,0,none⟩),.pointer (some ⟨b4,0,none⟩)],λ_ _=>rfl,λ_ _ _ _ _ _=>by kernel_rfl,λnE top p w hk hx b1 b2 b3 b4 gm hr cs F h=>by exact ZL nE top p w hk hx b1 b2 b3 b4 gm hr cs F h⟩
  ·exact⟨112,λb2 b4=>#[.pointer (some ⟨b2,0,none⟩),.pointer (some ⟨b4,0,none⟩)],λ_ _=>rfl,λ_ _ _ _ _ _=>by kernel_rfl,λnE top p w hk hx b1 b2 b3 b4 gm hr cs F h=>by exact ZM nE top p w hk hx b1 b2 b3 b4 gm hr cs F h⟩
 ·have g:=not_or.1 hk
  have g2:=not_or.1 g.2;have g3:=not_or.1 g2.2;have g4:=not_or.1 g3.2;refine⟨λ_ _=>.nilFunc,false,λW gm b2 b4 h=>?_,λ_=>⟨λ_ _=>rfl,λn top p hp=>?_⟩,(λh=>by cases h)⟩
  ·rw[iR h k,FC b2 b4 g.1 g2.1 g3.1 g4.1 g4.2];rfl
  ·subst hp;exact QR g.1 g2.1 g3.1 g4.1 g4.2
theorem QS(nE:Int):∀p:aJ,EE nE p:=by
 intro p
 induction p using aJ.ind with
 | h k' nI mx' uo cl' pr' args ih=>
 intro cs w F b1 b2 b3 b4 gm hr h;have bH:=au.here _ _ (jK _) h;have rZ:Hid (∀x∈(aJ.mk k' nI mx' uo cl' pr' args).args,EE nE x):=zH ih;obtain⟨p,hp⟩:=zF (aJ.mk k' nI mx' uo cl' pr' args);rw[hp] at rZ bH h ⊢;clear ih hp;obtain⟨k,mn,mx,el,ck,ns,nl,sp,A1,n1,c1,A2,n2,c2,pr,A,n,c,rfl,hk,-⟩:=aW bH;obtain⟨w1,bI,S1,lY,ai⟩:=af w (.cells #[.int .i64 k,.int .i64 mn,.int .i64 mx,.int .i64 el,.int .i64 ck,.string ns,.string nl,.string sp,.slice A1 n1 c1,.slice A2 n2 c2,.int .i64 pr,.slice A n c] 29);have aQ:=zH S1;have dX:=zH (hr.below ai);have jG:=zH bH;have HK:=zH hk;have q0:=aj S1;have y1:=aO (hr.below ai).1;clear S1 h bH hr hk;obtain⟨fv,is,o8,hno,alU⟩:=avY k;have pg:=o8 w1 gm b2 b4 dX.out.2.2.2.2;have HNO:=zH hno;have alV:=zH alU;clear o8 hno alU;obtain⟨w2,mJ,S2,oW,ag⟩:=af w1 (.cells #[fv b2 b4] 86);have y2:=aO S2;have q0:=aj (ae aQ.out ag);obtain⟨nb,gX⟩:=zF (bU p.mn p.mx);have oG:Hid (Rt 51 #[.agg (o5 k mn mx el ck ns nl sp A1 n1 c1 A2 n2 c2 pr A n c)] w2 (.bool nb)):=zH (nM p _ w2 _ (jG.out.below (ai.seq ag)) gX);obtain⟨fb,hfb⟩:=zF (bT nE false p);have HR:Hid ((bU p.mn p.mx&&bT nE false p)=(nb&&fb)):=zH (by rw[gX,hfb]);have gY:=zH S2;have HFB:=zH hfb;clear S2 gX hfb;rw[HR.out]
 cases is with
 | false=>
   obtain rfl:false=fb:=(by rw[<-HFB.out];exact((HNO.out rfl).2 nE false p HK.out).symm);rw[Bool.and_false];have hn:=(HNO.out rfl).1 b2 b4;have S2:=gY.out;rw[hn] at pg mJ y2 S2;have f2:=frozen_of_row w2 w1.heap.size 0 _ _ S2;clear S2;go_enter Tryz.func104,Tryz.ntmps104;go_wp2_with fail;go_ret;exact⟨rfl,(ai.seq ag).setCell ai.size _⟩
 | true=>
   obtain⟨f,cp,hcp,hcf,hfu⟩:=alV.out rfl
   have AL:Hid (∀W,Bw w2 W->Rt f (#[.agg (o5 k mn mx el ck ns nl sp A1 n1 c1 A2 n2 c2 pr A n c),.int .i64 nE,.bool false]++cp b2 b4) W (.bool fb)):=zH λW hW=>by
    rw[<-HFB.out];exact hfu nE false p W HK.out rZ.out b1 b2 b3 b4 gm (dX.out.below (ag.seq hW)) _ _ (jG.out.below (ai.seq (ag.seq hW)))
   rw[hcp] at mJ y2 gY;rw[hcp] at pg;have hcf:=hcf b2 b4;clear hfu hcp alV HNO;cases nb
   ·go_enter Tryz.func104,Tryz.ntmps104
    go_wp2_with fail;refine oG.out.mono ?_;rintro e w3 ⟨rfl,az⟩;go_wp2_with fail;go_ret;exact⟨rfl,ai.seq (ag.seq az)⟩
   ·go_enter Tryz.func104,Tryz.ntmps104
    go_wp2_with fail;refine oG.out.mono ?_;rintro e w3 ⟨rfl,az⟩;clear q0 y2;have q0:=aj (ae aQ.out (ag.seq az));have y2:=aO (ae gY.out az);go_wp2_with fail;refine (AL.out w3 az).mono ?_;rintro e w4 ⟨rfl,aX⟩;go_wp2_with fail;go_ret;exact⟨rfl,ai.seq (ag.seq (az.seq aX))⟩
end Go.Proofs.YtgmnnegfndpakaaGreatDoor
