import Derived.Test.YtgmnnegfndpakaaGreatDoorAttW
import Derived.Test.YtgmnnegfndpakaaGreatDoorN01
set_option maxHeartbeats 20000000
set_option maxRecDepth 100000
namespace Go.Proofs.YtgmnnegfndpakaaGreatDoor
open Go.RowKit
variable{m:eQ}{w:List Nm}{k n N num:Nat}{p:aJ}{A:List Nm->List Nat->Prop}{low high:Int}{s:List Nat}{l:List (List Nat)}{L:List LI->Prop}{acc:aJ->Nm->Bool}
noncomputable def acW(m:eQ)(w:List Nm)(k:Nat):List Nat:=(w.take k).foldl (lZ m) [0]
theorem aMx(m:eQ)(w:List Nm):acW m w 0=[0]:=by unfold acW;rw[List.take_zero];rfl
theorem azY{n:Nm}(h:w[k]?=n):acW m w (k+1)=lZ m (acW m w k) n:=by
 unfold acW;rw[List.take_add_one,h,Option.toList_some,List.foldl_append];rfl
theorem alx(m:eQ)(w:List Nm){j:Nat}(h:j<=k):acW m (w.take k) j=acW m w j:=by
 unfold acW;rw[List.take_take,Nat.min_eq_left h]
theorem agQ{lv:List Nat}:∀(u v:List Nm) (i:Nat) (set:List Nat),(∀j,j<u.length->EX ((u.take (j+1)).foldl (lZ m) set) lv=true)->QK m lv (u++v) i set=QK m lv v (i+u.length) (u.foldl (lZ m) set)
 | [],v,i,set,_=>by simp
 | n::u,v,i,set,h=>by
   have h0:=h 0 zP;simp only[Zs,List.take_zero,JN,List.foldl_nil] at h0
   rw[m7,QK,j6 h0,agQ u v (i+1) _ (λj hj=>by
    have:=h (j+1) zS1;rw[Zs,JN] at this
    exact this),z9,JN]
   congr 1
   omega
def azZ(m:eQ)(w:List Nm)(k:Nat):Prop:=∀j,j<k->EX (acW m w (j+1)) (aao m)=true
theorem aPM(hk:k<=w.length)(h:azZ m w k):QK m (aao m) (w.take k) 0 [0]=(qA m (acW m w k),k):=by
 have hl:(w.take k).length=k:=(by rw[Ju];omega)
 have:=agQ (m:=m) (lv:=aao m) (w.take k) [] 0 [0] (λj hj=>by
  rw[hl] at hj;have e:=alx m w (j:=j+1) (k:=k) zO;unfold acW at e;rw[e]
  exact h j hj)
 rw[m8] at this;rw[this,hl,d9];rfl
section
variable {elems:List (List Nm)} {p:aJ}
theorem aAh{n:Int}{top:Bool}{num:Nat}(hf:bT n top p=true){i:Nat}{q q':aJ}(h:(i,q)∈aaj p num)(h':(i,q')∈aaj p num):q=q':=by
 have ha:=ajJ n p top num hf;obtain⟨j,hj⟩:=List.getElem?_of_mem h;obtain⟨j',GL⟩:=List.getElem?_of_mem h';obtain⟨l1,e1⟩:=z4.1 hj;obtain⟨l2,e2⟩:=z4.1 GL;rw[List.pairwise_iff_getElem] at ha
 have g:∀(a b:Nat) (hla:a<(aaj p num).length) (hlb:b<(aaj p num).length),a<b->(aaj p num)[a].1<(aaj p num)[b].1:=λa b hla hlb nz=>by
  have:=ha a b (by rw[z8];exact hla) (by rw[z8];exact hlb) nz;rwa [List.getElem_map,List.getElem_map] at this
 have hjj:j=j':=by
  rcases Nat.lt_trichotomy j j' with aN | he | hgt
  ·have:=g j j' l1 l2 aN;rw[e1,e2] at this;exact absurd this (Nat.lt_irrefl _)
  ·exact he
  have:=g j' j l2 l1 hgt;rw[e1,e2] at this;exact absurd this (Nat.lt_irrefl _)
 subst hjj;rw[hj] at GL;exact(Prod.mk.inj (zI GL)).2
noncomputable def nextL(m:eQ)(S:List Nat):List Nat:=sset (S.flatMap (NF m (aao m)))
theorem aly{m:eQ}{S:List Nat}{i:Nat}:i∈nextL m S↔∃s∈S,∃x∈gK m s,x.dst∈aao m/\Hr m.elems x.leaf=true/\x.num=i:=by
 unfold nextL NF;rw[wI,List.mem_flatMap];constructor
 ·rintro⟨s,hs,h⟩;obtain⟨x,hx,rfl⟩:=List.mem_map.1 h;obtain⟨h1,h2⟩:=List.mem_filter.1 hx;rw[z7,gy] at h2;exact⟨s,hs,x,h1,h2.1,h2.2,rfl⟩
 rintro⟨s,hs,x,h1,h2,h3,rfl⟩;exact⟨s,hs,List.mem_map.2 ⟨x,List.mem_filter.2 ⟨h1,by rw[z7,gy];exact⟨h2,h3⟩⟩,rfl⟩⟩
theorem agv(elems:List (List Nm))(p:aJ):(eU elems p).elems=elems:=by unfold eU;split<;>rfl
theorem step_pos{m:eQ}{s:Nat}{x:Stp}(h:x∈gK m s):0<x.dst:=by
 by_cases ha:m.all=[]
 ·obtain⟨i,q,-,-,rfl⟩:=(acy ha).1 h;exact Nat.succ_pos i
 have he:m.all.isEmpty=false:=by cases hq:m.all with
  | nil=>exact absurd hq ha
  | cons a l=>rfl
 unfold gK at h;rw[he] at h
 have:∀(l:List aJ) (s i unit rest:Nat) (x:Stp),0<unit->x∈qH l s i unit rest->0<x.dst:=by
  intro l
  induction l with
  | nil=>intro s i unit rest x _ hx;simp[qH] at hx
  | cons p l ih=>
    intro s i unit rest x hu hx;rw[qH,z12] at hx
    rcases hx with hx | hx
    ·split at hx
     ·rw[og] at hx;subst hx;show 0<s+unit;omega
     simp at hx
    exact ih s (i+1) (4*unit) _ x zO hx
 exact this _ _ _ _ _ x zO h
theorem aPP{m:eQ}(S:List Nat)(n:Nm):lZ m S n≠[0]:=λh=>by
 obtain⟨s,-,x,hx,-,h0⟩:=acx.1 (show 0∈lZ m S n by rw[h];simp);have:=step_pos hx;omega
theorem aJx(hc:kN elems p=0)(h:EX [0] (aao (eU elems p))=false)(n:Nm):EX (lZ (eU elems p) [0] n) (aao (eU elems p))=false:=by
 cases hm:EX (lZ (eU elems p) [0] n) (aao (eU elems p)) with
 | false=>rfl
 | true=>
   unfold EX at hm;obtain⟨t,ht,hl⟩:=Qc.1 hm;rw[gy] at hl;obtain⟨s,hs,x,hx,ha,rfl⟩:=acx.1 ht;rw[og] at hs;subst hs;obtain⟨h1,t,h2,h3⟩:=(afW (MH hc) (FW hc) _).1 hl;have h0:0∈aao (eU elems p):=(afW (MH hc) (FW hc) _).2 ⟨.refl _,t,h2.head ⟨x,hx,agE ha,rfl⟩,h3⟩
   have:EX [0] (aao (eU elems p))=true:=by
    unfold EX;exact Qc.2 ⟨0,zP,decide_eq_true h0⟩
   rw[h] at this;cases this
end
section
variable {elems:List (List Nm)} {p:aJ}
def ajS(p:aJ)(elems:List (List Nm))(a:Aut)(w:List Nm)(k st:Nat):Prop:=∃sets rows,oU (xX (eU elems p) (mZ elems [p])) (mZ elems [p]).size 1001 0 [[0]] []=some (sets,rows)/\
 a=TM (mZ elems [p]) (λs=>EX s (aao (eU elems p))) (qA (eU elems p)) sets rows/\
 apn (λs=>EX s (aao (eU elems p))) sets (acW (eU elems p) w k) st/\azZ (eU elems p) w k
theorem aPc(h:(DJ p elems).2=0)(w:List Nm):ajS p elems (DJ p elems).1 w 0 0:=by
 obtain⟨-,sets,rows,h1,h2⟩:=aza h;exact⟨sets,rows,h1,h2,by rw[aMx];exact avF (ar4 h1),λj hj=>by omega⟩
theorem aGj(hc:kN elems p=0){w:List Nm}{k:Nat}(hl:w.length<=300)(hv:w.any oZ=false):TG p elems (w.take k)=if EX (acW (eU elems p) w k) (aao (eU elems p))=true then (nextL (eU elems p) (acW (eU elems p) w k),qA (eU elems p) (acW (eU elems p) w k),0) else ([],false,4):=by
 have Ue:(w.take k).any oZ=false:=by
  rw[List.any_eq_false] at hv ⊢;exact λx hx=>hv x (List.mem_of_mem_take hx)
 unfold TG;rw[hc,j5 zP,j5 (by rw[Ju];omega),Ue,j5 zP]
 cases hm:EX (acW (eU elems p) w k) (aao (eU elems p)) with
 | true=>rw[j5 (by unfold acW at hm;rw[hm];simp),j6 rfl];rfl
 | false=>rw[j6 (by unfold acW at hm;exact hm),j5 zP]
theorem aPf(hc:kN elems p=0){a:Aut}{w:List Nm}{k st:Nat}(h:ajS p elems a w k st){n:Nm}(hn:w[k]?=n)(hv:oZ n=false):
 ∃(x:Nat) (r:List Int) (v:Int),adu a.names a.spaces n=((x:Int),0)/\a.steps[st]?=r/\x<r.length/\r[x]?=v/\
  ((v= -1/\EX (acW (eU elems p) w (k+1)) (aao (eU elems p))=false)\/∃n':Nat,v=(n':Int)/\n'<a.final.length/\EX (acW (eU elems p) w (k+1)) (aao (eU elems p))=true/\ajS p elems a w (k+1) n'):=by
 obtain⟨sets,rows,h1,rfl,h3,h4⟩:=h;obtain⟨hg,ht,hlen⟩:=aiu (P:=λ_=>True) (λ_ _=>trivial) h1;obtain⟨x,e1,e2,e3⟩:=aMu (aPL elems [p]) hv;obtain⟨q1,q2⟩:=VW hc;have iY:mF [p]<=4000:=(by rw[mF,mF];omega);obtain⟨q3,q4⟩:=Yf (elems:=elems) (ps:=[p]) (N:=10000) zO;have agV:=aMw (ps:=[p]) (λq hq=>by rw[og.1 hq];exact hc) (J5 hc).2.1 zO zO
 have hb:xX (eU elems p) (mZ elems [p]) (acW (eU elems p) w k) x=acW (eU elems p) w (k+1):=by
  rw[azY hn];unfold xX;exact aMJ hc (og.2 rfl) (by rw[aJt agV];have:=auM n;rw[hv] at this;simpa using this) e3 _
 obtain⟨r,v,g1,g2,g3,g4⟩:=ay8 (fin:=qA (eU elems p)) (a:=mZ elems [p]) ht hlen h3 e2 (ar4 h1) (by unfold xX;exact aPP _ _);rw[hb] at g4;refine⟨x,r,v,e1,g1,by rw[g2];exact e2,g3,?_⟩
 rcases g4 with ⟨g5,g6⟩ | ⟨n',g5,g6,-,g7,g8⟩
 ·refine .inl ⟨g5,?_⟩
  rcases g6 with g6 | g6
  ·rw[g6];rfl
  exact g6
 refine .inr ⟨n',g5,g6,g7,sets,rows,h1,rfl,g8,λj hj=>?_⟩
 rcases i8 j k with aN | jT
 ·exact h4 j aN
 obtain rfl:j=k:=zO;exact g7
end
theorem azM{elems:List (List Nm)}(hc:kN elems p=0)(hk:p.kind≠5)(hs:afX (eU elems p))(w:List Nm):(QK (eU elems p) (aao (eU elems p)) w 0 [0]).1=true↔aaw (aeQ (Gf elems) p) p.mn p.mx w:=by
 obtain⟨hg,hn,-⟩:=Vz hc hk;have hb:eU elems p=⟨elems,(fV p 0 []).1,(fV p 0 []).2.first,(fV p 0 []).2.last,(fV p 0 []).2.empty,[]⟩:=(by unfold eU;rw[j5 hk]);rw[aqD (MH hc) (FW hc) hs w];rw[aEI (by rw[hb]) w];have hm:=xI hg hn 0 []
 have he:∀W,Acc (eU elems p).places ⟨(eU elems p).first,(eU elems p).last,(eU elems p).empty⟩ W↔Gg (rW p 0) p.mn p.mx W:=λW=>by
  rw[hb];exact hm.ok.acc W
 have lT:(eU elems p).elems=elems:=(by rw[hb]);rw[lT]
 have h1:den (Gf elems) (Acc (eU elems p).places ⟨(eU elems p).first,(eU elems p).last,(eU elems p).empty⟩) w↔den (Gf elems) (Gg (rW p 0) p.mn p.mx) w:=
  ⟨λ⟨W,a,b⟩=>⟨W,(he W).1 a,b⟩,λ⟨W,a,b⟩=>⟨W,(he W).2 a,b⟩⟩
 rw[h1,ajL];exact adi (agC (Gf elems) p 0) _ _ _
inductive Rch (a:Aut):Nat->Prop
 | start:Rch a 0
 | step {s t x:Nat} {r:List Int}:Rch a s->a.steps[s]?=r->r[x]?=some (t:Int)->Rch a t
inductive Led (a:Aut) (st:Nat->Nm):List Nm->Nat->Prop
 | start:Led a st [] 0
 | step {u:List Nm} {s t x:Nat} {r:List Int}:Led a st u s->a.steps[s]?=r->r[x]?=some (t:Int)->Led a st (u++[st x]) t
structure WdI (a:Aut) (st:Nat->Nm) (d:KG):Prop where
 zero:0∈d.list
 seen:∀t,d.seen[t]?=some true->t∈d.list
 aQc:∀t∈d.list,d.seen[t]?=some true
 led:∀t∈d.list,∃u,d.word[t]?=some u/\Led a st u t
theorem WdI.start(a:Aut)(st:Nat->Nm)(h:0<n):WdI a st (aFa n):=by
 unfold aFa;refine⟨og.2 rfl,λt ht=>?_,λt ht=>?_,λt ht=>?_⟩
 ·show t∈[0];by_cases e:t=0
  ·subst e;exact og.2 rfl
  have h1:((List.replicate n false).set 0 true)[t]?=some true:=ht;rw[List.getElem?_set_ne (λe'=>e e'.symm)] at h1;have:=List.mem_replicate.1 (SK h1);cases this.2
 ·have h1:t=0:=og.1 ht;subst h1;show ((List.replicate n false).set 0 true)[0]?=some true;rw[List.getElem?_set_self (by rw[List.length_replicate];exact h)]
 have h1:t=0:=og.1 ht;subst h1;exact⟨[],by show (List.replicate n ([]:List Nm))[0]?=some [];rw[List.getElem?_replicate,j6 h],.start⟩
section
variable {a:Aut} {st:Nat->Nm}
theorem WdI.cell{n s x:Nat}{d:KG}{R:List Int}{tt:Int}(h:WdI a st d)(hk:akW n d)(hs:s∈d.list)(hR:a.steps[s]?=R)(hx:R[x]?=tt)(ht:tt<n):
 WdI a st (azJ st s d x tt)/\(∃more,(azJ st s d x tt).list=d.list++more)/\∀t:Nat,tt=(t:Int)->t∈(azJ st s d x tt).list:=by
 by_cases hc:0<=tt/\(d.seen[tt.toNat]?).getD true=false
 ·obtain⟨t,rfl⟩:∃t:Nat,tt=(t:Int):=⟨tt.toNat,zO⟩;have h2:=hc.2;rw[Int.toNat_natCast] at h2;have aN:t<d.seen.length:=(by rw[hk.seen];omega)
  have hf:d.seen[t]?=some false:=by
   rw[z6 aN] at h2 ⊢;rw[Option.getD_some] at h2;rw[h2]
  rw[aPp st s x hf]
  have dD:∀t'∈d.list,t'≠t:=λt' h1 e=>by
   subst e;have:=h.aQc _ h1;rw[hf] at this;cases this
  obtain⟨u,hu,hl⟩:=h.led s hs;refine⟨⟨List.mem_append_left _ h.zero,λt' h1=>?_,λt' h1=>?_,λt' h1=>?_⟩,⟨[t],rfl⟩,λt' e=>?_⟩
  ·have h1:(d.seen.set t true)[t']?=some true:=h1;by_cases e:t=t'
   ·subst e;exact List.mem_append_right _ (og.2 rfl)
   rw[List.getElem?_set_ne e] at h1;exact List.mem_append_left _ (h.seen t' h1)
  ·show (d.seen.set t true)[t']?=some true
   rcases z12.1 h1 with h1 | h1
   ·rw[List.getElem?_set_ne (dD t' h1).symm];exact h.aQc t' h1
   rw[og] at h1;subst h1;exact List.getElem?_set_self aN
  ·rcases z12.1 h1 with h1 | h1
   ·obtain⟨u',a1,a2⟩:=h.led t' h1;exact⟨u',by show (d.word.set t _)[t']?=u';rw[List.getElem?_set_ne (dD t' h1).symm];exact a1,a2⟩
   rw[og] at h1;subst h1;refine⟨(d.word[s]?).getD []++[st x],List.getElem?_set_self (by rw[hk.word,<-hk.seen];exact aN),?_⟩;rw[hu];exact .step hl hR hx
  have:t'=t:=zO;subst this;exact List.mem_append_right _ (og.2 rfl)
 rw[aS9 st s x hc];refine⟨h,⟨[],zP⟩,λt e=>?_⟩;subst e;have aN:t<d.seen.length:=(by rw[hk.seen];omega);refine h.seen t ?_
 cases hb:d.seen[t]? with
 | none=>rw[z22] at hb;omega
 | some b=>
   cases b with
   | true=>rfl
   | false=>exact absurd ⟨zO,by rw[Int.toNat_natCast,hb];rfl⟩ hc
theorem WdI.row{n s:Nat}{R:List Int}(hR:a.steps[s]?=R):∀(r:List Int) (x:Nat) {d:KG},WdI a st d->akW n d->s∈d.list->(∀(y:Nat) (v:Int),r[y]?=v->R[x+y]?=v)->(∀v∈r,v<(n:Int))->
 WdI a st (aFf st s r x d)/\(∃more,(aFf st s r x d).list=d.list++more)/\∀(y t:Nat),r[y]?=some (t:Int)->t∈(aFf st s r x d).list
 | [],_,d,h,_,_,_,_=>⟨h,⟨[],(m8 _).symm⟩,λy t e=>by simp at e⟩
 | v::r,x,d,h,hk,hs,hr,hv=>by
   obtain⟨h1,⟨m1,h2⟩,h3⟩:=h.cell (x:=x) hk hs hR (hr 0 v rfl) (hv v (List.mem_cons_self ..))
   obtain⟨h4,⟨m2,h5⟩,h6⟩:=WdI.row hR r (x+1) h1 (hk.cell st s x v (hv v (List.mem_cons_self ..))) (by rw[h2];exact List.mem_append_left _ hs)
    (λy v' e=>by rw[show x+1+y=x+(y+1) by omega];exact hr (y+1) v' (by simpa using e)) λv' e=>hv v' (Zb _ e)
   refine⟨h4,⟨m1++m2,by rw[aFf,h5,h2,d7]⟩,λy t e=>?_⟩;rw[aFf]
   cases y with
   | zero=>
     have e':v=(t:Int):=(by simpa using e);rw[h5];exact List.mem_append_left _ (h3 t e')
   | succ y=>exact h6 y t (by simpa using e)
def WdD(a:Aut)(k:Nat)(d:KG):Prop:=∀i,i<k->∀s,d.list[i]?=some s->∀R:List Int,a.steps[s]?=R->∀x t:Nat,R[x]?=some (t:Int)->t∈d.list
theorem axD{n:Nat}(hn:∀R∈a.steps,∀v∈R,v<(n:Int)):∀(f k:Nat) (d:KG),akW n d->WdI a st d->WdD a k d->k<=d.list.length->n+1<=f+k->
 ∃D:KG,WdI a st D/\WdD a D.list.length D/\(∃more,D.list=d.list++more)/\∀i s,k<=i->D.list[i]?=some s->∃u,(s,u)∈as5 a st f k d/\Led a st u s
 | 0,k,d,hk,_,_,hl,hf=>by
   have:=hk.num;omega
 | f+1,k,d,hk,hi,hd,hl,hf=>by
   cases hs:d.list[k]? with
   | none=>
     have Md:d.list.length<=k:=z22.1 hs;obtain rfl:k=d.list.length:=zO;refine⟨d,hi,hd,⟨[],zP⟩,λi s h1 h2=>?_⟩;have:=(z4.1 h2).1;omega
   | some s=>
     have Md:=(z4.1 hs).1;have ve:=SK hs;obtain⟨u,hu,aFK⟩:=hi.led s ve;rw[aPj a st f k hs]
     have key:∃d',aFf st s ((a.steps[s]?).getD []) 0 d=d'/\akW n d'/\WdI a st d'/\(∃more,d'.list=d.list++more)/\WdD a (k+1) d':=by
      have up:∀d':KG,(∃more,d'.list=d.list++more)->(∀R:List Int,a.steps[s]?=R->∀x t:Nat,R[x]?=some (t:Int)->t∈d'.list)->WdD a (k+1) d':=by
       rintro d' ⟨more,e⟩ h i hik s' Af R hR x t hx;rw[e,z20 zO] at Af;by_cases aYH:i=k
       ·subst aYH;obtain rfl:s=s':=zI (hs.symm.trans Af);exact h R hR x t hx
       rw[e];exact List.mem_append_left _ (hd i zO s' Af R hR x t hx)
      cases hR:a.steps[s]? with
      | none=>exact⟨d,rfl,hk,hi,⟨[],zP⟩,up d ⟨[],zP⟩ λR h=>by rw[hR] at h;cases h⟩
      | some R=>
        have hv:=hn R (SK hR);obtain⟨h1,h2,h3⟩:=hi.row hR R 0 hk ve (λy v e=>by rw[d9];exact e) hv;exact⟨_,rfl,hk.row st s R 0 hv,h1,h2,up _ h2 λR' h=>by rw[hR] at h;cases h;exact h3⟩
     obtain⟨d',e,fM,DT,⟨m1,iY⟩,hd'⟩:=key;rw[e];obtain⟨D,h1,h2,⟨m2,nJ⟩,h3⟩:=axD hn f (k+1) d' fM DT hd' (by rw[iY,z5];omega) zO;refine⟨D,h1,h2,⟨m1++m2,by rw[nJ,iY,d7]⟩,λi t hit ht=>?_⟩;by_cases hik:i=k
     ·subst hik;rw[nJ,iY,d7,z20 Md,hs] at ht;obtain rfl:=zI ht;exact⟨u,by rw[hu];exact List.mem_cons_self ..,aFK⟩
     obtain⟨u',a1,a2⟩:=h3 i t zO ht;exact⟨u',Zb _ a1,a2⟩
end
section
variable {elems:List (List Nm)} {p:aJ}
theorem aNf(hm:(DJ p elems).2=0){s:Nat}(h:Rch (DJ p elems).1 s):∃u,(s,u)∈azV (DJ p elems).1/\Led (DJ p elems).1 (iJ (DJ p elems).1.alp) u s:=by
 obtain⟨-,h0,hn⟩:=aTa hm;obtain⟨D,h1,h2,-,h3⟩:=axD (a:=(DJ p elems).1) (st:=iJ (DJ p elems).1.alp) hn ((DJ p elems).1.final.length+1) 0 (aFa (DJ p elems).1.final.length) (.start h0) (.start _ _ h0) (λi hi=>by omega) (Nat.zero_le _) zO
 have jb:s∈D.list:=by
  induction h with
  | start=>exact h1.zero
  | step _ hr hx ih=>
    obtain⟨i,hi⟩:=List.mem_iff_getElem?.1 ih;exact h2 i (z4.1 hi).1 _ hi _ hr _ _ hx
 obtain⟨i,hi⟩:=List.mem_iff_getElem?.1 jb;exact h3 i s (Nat.zero_le _) hi
theorem auN{mark:List Nat->Bool}:∀{l:List (List Nat)} {i k k':Nat} {s:List Nat},l[k]?=s->aeu mark (i+k) s=true->k<k'->acs mark l i k<acs mark l i k'
 | [],_,_,_,_,h,_,_=>by simp at h
 | t::l,i,k,0,s,_,_,aN=>absurd aN (Nat.not_lt_zero _)
 | t::l,i,0,k'+1,s,h,hk,_=>by
   obtain rfl:t=s:=(by simpa using h);rw[Qf] at hk;rw[ajo,acs,j6 hk];omega
 | t::l,i,k+1,k'+1,s,h,hk,aN=>by
   have h':l[k]?=s:=(by simpa using h);have fM:aeu mark (i+1+k) s=true:=(by rw[show i+1+k=i+(k+1) by omega];exact hk);rw[acs,acs];have:=auN h' fM (show k<k' by omega);omega
theorem aNi{mark:List Nat->Bool}{sets:List (List Nat)}{S S':List Nat}{n:Nat}(h:apn mark sets S n)(h':apn mark sets S' n):S=S':=by
 obtain⟨k,h1,h2,h3⟩:=h;obtain⟨k',h4,h5,h6⟩:=h'
 have e:k=k':=by
  rcases Nat.lt_trichotomy k k' with aN | he | hgt
  ·have:=auN (i:=0) h1 (by rw[d9];exact h2) aN;omega
  ·exact he
  have:=auN (i:=0) h4 (by rw[d9];exact h5) hgt;omega
 subst e;exact zI (h1.symm.trans h4)
theorem aQl{sets:List (List Nat)}{rows:List (List Int)}(h1:oU (xX (eU elems p) (mZ elems [p])) (mZ elems [p]).size 1001 0 [[0]] []=some (sets,rows)){u:List Nm}{s:Nat}
 (h:Led (TM (mZ elems [p]) (λs=>EX s (aao (eU elems p))) (qA (eU elems p)) sets rows) (iJ (mZ elems [p])) u s):apn (λs=>EX s (aao (eU elems p))) sets (u.foldl (lZ (eU elems p)) [0]) s:=by
 obtain⟨-,ht,hlen⟩:=aiu (P:=λ_=>True) (λ_ _=>trivial) h1;have hb:∀S x,xX (eU elems p) (mZ elems [p]) S x≠[0]:=λS x=>(by unfold xX;exact aPP _ _)
 induction h with
 | start=>exact avF (ar4 h1)
 | @step u s t x r _ hr hx ih=>
   have h0:0<(mZ elems [p]).size:=(by unfold zZ.size;omega);obtain⟨r0,-,g1,g2,-,-⟩:=ay8 (fin:=qA (eU elems p)) (a:=mZ elems [p]) ht hlen ih h0 (ar4 h1) (hb _ 0);obtain rfl:r=r0:=zI (hr.symm.trans g1);obtain⟨r1,v,g3,-,g4,g5⟩:=ay8 (fin:=qA (eU elems p)) (a:=mZ elems [p]) ht hlen ih (x:=x) (by rw[<-g2];exact(z4.1 hx).1) (ar4 h1) (hb _ x);obtain rfl:r=r1:=zI (hr.symm.trans g3);obtain rfl:(t:Int)=v:=zI (hx.symm.trans g4);rw[List.foldl_append,JN,List.foldl_nil]
   rcases g5 with ⟨g6,-⟩ | ⟨n',g6,-,-,-,g7⟩
   ·omega
   obtain rfl:t=n':=zO;unfold xX at g7;exact g7
theorem aFL(hm:(DJ p elems).2=0){w:List Nm}(hv:w.any oZ=false):∀k,k<=w.length->azZ (eU elems p) w k->∃st,ajS p elems (DJ p elems).1 w k st/\Rch (DJ p elems).1 st
 | 0,_,_=>⟨0,aPc hm w,.start⟩
 | k+1,hk,hl=>by
   obtain⟨st,h1,h2⟩:=aFL hm hv k zO λj hj=>hl j zO;obtain⟨n,hn⟩:∃n,w[k]?=some n:=⟨_,z6 (show k<w.length by omega)⟩;obtain⟨x,r,v,-,g1,-,g2,g3⟩:=aPf (aza hm).1 h1 hn (by rw[List.any_eq_false] at hv;simpa using hv n (SK hn))
   rcases g3 with ⟨-,g4⟩ | ⟨n',rfl,-,-,g4⟩
   ·have:=hl k zO;rw[g4] at this;cases this
   exact⟨n',g4,.step h2 g1 g2⟩
theorem atT{L:List (Nat×aJ)}{a:zZ}{l:List Nat}:∀{xs:List Nat},acr elems L a l xs=none->∀x∈xs,∀i j r,ack elems L l (iJ a x)≠i::j::r
 | [],_,x,hx=>by cases hx
 | y::xs,h,x,hx=>by
   rw[acr] at h
   split at h
   ·cases h
   rename_i hb
   rcases TT.1 hx with rfl | hx
   ·exact λi j r e=>hb i j r e
   exact atT h x hx
theorem ayF{L:List (Nat×aJ)}{a:zZ}:∀{ws:List (Nat×List Nm)},(gp p elems L a ws).is=true->(gp p elems L a ws).e=0->∀w∈ws,(TG p elems w.2).2.2=4\/((TG p elems w.2).2.2=0/\acr elems L a (TG p elems w.2).1 (List.range a.size)=none)
 | [],_,_,w,hw=>by cases hw
 | v::ws,hi,he,w,hw=>by
   rw[gp] at hi he;by_cases h1:(TG p elems v.2).2.2=4
   ·rw[j6 h1] at hi he
    rcases TT.1 hw with rfl | hw
    ·exact .inl h1
    exact ayF hi he w hw
   rw[j5 h1] at hi he;by_cases h2:(TG p elems v.2).2.2≠0
   ·rw[j6 h2] at hi;cases hi
   rw[j5 h2] at hi he
   cases hc:acr elems L a (TG p elems v.2).1 (List.range a.size) with
   | some c=>rw[hc] at hi;cases hi
   | none=>
     rw[hc] at hi he
     rcases TT.1 hw with rfl | hw
     ·exact .inr ⟨Decidable.of_not_not h2,hc⟩
     exact ayF hi he w hw
theorem aFM(hi:(aaV p elems).is=true)(he:(aaV p elems).e=0):(DJ p elems).2=0/\∀w∈azV (DJ p elems).1,(TG p elems w.2).2.2=4\/
 ((TG p elems w.2).2.2=0/\acr elems (aaj p 0) (DJ p elems).1.alp (TG p elems w.2).1 (List.range (DJ p elems).1.alp.size)=none):=by
 unfold aaV at hi he;by_cases hm:(DJ p elems).2≠0
 ·rw[j6 hm] at hi;cases hi
 rw[j5 hm] at hi he;exact⟨Decidable.of_not_not hm,ayF hi he⟩
theorem aNm(hc:kN elems p=0){u:List Nm}(h:(TG p elems u).2.2=4\/(TG p elems u).2.2=0)(hm:EX (u.foldl (lZ (eU elems p)) [0]) (aao (eU elems p))=true):
 (TG p elems u).2.2=0/\(TG p elems u).1=nextL (eU elems p) (u.foldl (lZ (eU elems p)) [0]):=by
 unfold TG at h ⊢;rw[j5 (by rw[hc];simp)] at h ⊢;by_cases h1:300<u.length
 ·rw[j6 h1] at h
  rcases h with h | h<;>cases h
 rw[j5 h1] at h ⊢;by_cases h2:u.any oZ=true
 ·rw[j6 h2] at h
  rcases h with h | h<;>cases h
 rw[j5 h2,j5 (by rw[hm];simp)];exact⟨rfl,rfl⟩
theorem aUd(hc:kN elems p=0){x y:Nm}(hv:jJ x.1 x.2=jJ y.1 y.2)(hs:ado (mZ elems [p]) x y)(l:List Nat):ack elems (aaj p 0) l x=ack elems (aaj p 0) l y:=by
 unfold ack;refine List.filter_congr λi _=>?_;unfold apU
 cases hk:lkP (aaj p 0) i with
 | none=>rfl
 | some q=>exact aAg (og.2 rfl) (J5 hc).2.2.2.2.1 (aRA hk) hv hs
theorem aNA(hi:(aaV p elems).is=true)(he:(aaV p elems).e=0){w:List Nm}(hv:w.any oZ=false){k:Nat}{n:Nm}(hn:w[k]?=n)(hl:azZ (eU elems p) w k)(hm:EX (acW (eU elems p) w k) (aao (eU elems p))=true):
 ∀i j r,ack elems (aaj p 0) (nextL (eU elems p) (acW (eU elems p) w k)) n≠i::j::r:=by
 obtain⟨kV,dW⟩:=aFM hi he;have hc:=(aza kV).1;have Md:=(z4.1 hn).1;have hb:oZ n=false:=(by rw[List.any_eq_false] at hv;simpa using hv n (SK hn));obtain⟨st,⟨sets,rows,h1,h2,h3,-⟩,hr⟩:=aFL kV hv k zO hl;obtain⟨u,hu,aFK⟩:=aNf kV hr;have aYL:(DJ p elems).1.alp=mZ elems [p]:=(by rw[h2];rfl);rw[aYL] at aFK dW;rw[h2] at aFK;have hS:u.foldl (lZ (eU elems p)) [0]=acW (eU elems p) w k:=aNi (aQl h1 aFK) h3;obtain⟨q1,q2⟩:=VW hc;have iY:mF [p]<=4000:=(by rw[mF,mF];omega);obtain⟨q3,q4⟩:=Yf (elems:=elems) (ps:=[p]) (N:=10000) zO;have agV:=aMw (ps:=[p]) (λq hq=>by rw[og.1 hq];exact hc) (J5 hc).2.1 zO zO;obtain⟨x,-,hx,ve⟩:=aMu (aPL elems [p]) hb;have ha:=dW _ hu;obtain⟨g1,g2⟩:=aNm hc (ha.imp id (·.1)) (by rw[hS];exact hm)
 rcases ha with ha | ⟨-,ha⟩
 ·rw[g1] at ha;cases ha
 rw[g2,hS] at ha;rw[<-aUd hc (x:=iJ (mZ elems [p]) x) (by rw[aJt agV];have:=auM n;rw[hb] at this;simpa using this) ve];exact atT ha x (List.mem_range.2 hx)
def Pth(m:eQ):Nat->List LI->Prop
 | s,[]=>wH m s=true
 | s,l::V=>∃x∈gK m s,(x.num,x.leaf)=l/\Pth m x.dst V
theorem aFN{m:eQ}(dW:m.all=[]){s j:Nat}{l:LI}(hj:j∈ku m s)(hl:sG m.places j=l):∃x∈gK m s,(x.num,x.leaf)=l/\x.dst=j+1:=by
 obtain⟨q,hq,rfl⟩:=Option.map_eq_some_iff.1 hl;exact⟨_,(acy dW).2 ⟨j,q,hj,hq,rfl⟩,rfl,rfl⟩
theorem aQn{m:eQ}(dW:m.all=[]){j:Nat}{V:List LI}(h:xk m.places m.last j V):Pth m (j+1) V:=by
 induction h with
 | stop h=>exact(ak7 dW _).2 h
 | @go i j l w h1 h2 _ ih=>
   obtain⟨q,hq,hf⟩:=h1;obtain⟨x,a1,a2,a3⟩:=aFN dW (s:=i+1) (show j∈ku m (i+1) by unfold ku;rw[j5 zO,Nat.add_sub_cancel,hq];exact hf) h2;exact⟨x,a1,a2,by rw[a3];exact ih⟩
theorem aQo{m:eQ}(dW:m.all=[]){W:List LI}(h:Acc m.places ⟨m.first,m.last,m.empty⟩ W):Pth m 0 W:=by
 rcases h with ⟨rfl,he⟩ | ⟨j,l,v,hj,hl,rfl,hs⟩
 ·show wH m 0=true;unfold wH;rw[dW];have he:m.empty=true:=he;simp[he]
 obtain⟨x,a1,a2,a3⟩:=aFN dW (s:=0) (show j∈ku m 0 by unfold ku;rw[j6 rfl];exact hj) hl;exact⟨x,a1,a2,by rw[a3];exact aQn dW hs⟩
theorem ayG{m:eQ}:∀{V:List LI} {w:List Nm} {s:Nat},Pth m s V->agA (Gf m.elems) V w->∃t,Reach m s t/\wH m t=true
 | [],_,s,h,_=>⟨s,.refl _,h⟩
 | l::V,[],_,_,hm=>hm.elim
 | l::V,n::w,s,⟨x,hx,hl,h⟩,hm=>by
   obtain⟨t,h1,h2⟩:=ayG h hm.2;subst hl;exact⟨t,h1.head ⟨x,hx,agE hm.1,rfl⟩,h2⟩
def Tol(m:eQ)(L:List (Nat×aJ)):List Nat->List LI->List Nm->Prop
 | S,[],[]=>qA m S=true
 | S,l::V,n::w=>(l∈L/\l.1∈nextL m S/\Gf m.elems l.2 n=true/\EX S (aao m)=true/\EX (lZ m S n) (aao m)=true)/\Tol m L (lZ m S n) V w
 | _,_,_=>False
theorem aJy{m:eQ}{L:List (Nat×aJ)}(fQ:mQ m)(uw:∀s,(gK m s).length<=300000)(hL:∀s,∀x∈gK m s,(x.num,x.leaf)∈L):∀{V:List LI} {w:List Nm} {s:Nat} {S:List Nat},s∈S->Reach m 0 s->Pth m s V->agA (Gf m.elems) V w->Tol m L S V w
 | [],[],s,S,hs,_,h,_=>by
   show qA m S=true;unfold qA;exact Qc.2 ⟨s,hs,h⟩
 | [],_::_,_,_,_,_,_,hm=>hm.elim
 | _::_,[],_,_,_,_,_,hm=>hm.elim
 | l::V,n::w,s,S,hs,hr,h,hm=>by
   have h0:=ayG h hm;obtain⟨x,hx,rfl,h⟩:=h;have ve:=agE hm.1;have Aq:Reach m 0 x.dst:=hr.tail ⟨x,hx,ve,rfl⟩;have hlx:x.dst∈aao m:=(afW fQ uw _).2 ⟨Aq,ayG h hm.2⟩;have hb:x.dst∈lZ m S n:=acx.2 ⟨s,hs,x,hx,hm.1,rfl⟩;exact⟨⟨hL s x hx,aly.2 ⟨s,hs,x,hx,hlx,ve,rfl⟩,hm.1,Qc.2 ⟨s,hs,decide_eq_true ((afW fQ uw _).2 ⟨hr,h0⟩)⟩,Qc.2 ⟨x.dst,hb,decide_eq_true hlx⟩⟩,aJy fQ uw hL hb Aq h hm.2⟩
theorem aFO{m:eQ}{L:List (Nat×aJ)}:∀{V:List LI} {w:List Nm} {S:List Nat},Tol m L S V w->∀k n,w[k]?=some n->∃l,V[k]?=some l/\l∈L/\l.1∈nextL m ((w.take k).foldl (lZ m) S)/\Gf m.elems l.2 n=true/\
 EX ((w.take k).foldl (lZ m) S) (aao m)=true/\EX ((w.take (k+1)).foldl (lZ m) S) (aao m)=true
 | [],[],_,_,k,n,h=>by simp at h
 | [],_::_,_,ht,_,_,_=>ht.elim
 | _::_,[],_,ht,_,_,_=>ht.elim
 | l::V,m'::w,S,⟨h1,h2⟩,0,n,h=>by
   obtain rfl:m'=n:=(by simpa using h);exact⟨l,rfl,h1.1,h1.2.1,h1.2.2.1,h1.2.2.2.1,h1.2.2.2.2⟩
 | l::V,m'::w,S,⟨_,h2⟩,k+1,n,h=>by
   obtain⟨l',a1,a2⟩:=aFO h2 k n (by simpa using h);exact⟨l',by simpa using a1,by simpa using a2⟩
theorem aJz{m:eQ}{L:List (Nat×aJ)}:∀{V:List LI} {w:List Nm} {S:List Nat},Tol m L S V w->qA m (w.foldl (lZ m) S)=true
 | [],[],_,h=>h
 | [],_::_,_,ht=>ht.elim
 | _::_,[],_,ht=>ht.elim
 | _::_,_::w,_,⟨_,h2⟩=>by
   rw[JN];exact aJz h2
theorem aF4{f:Nat->List Nat}{g:Nat->Nat}:∀{l:List Nat},(∀k∈l,f k=[g k])->l.flatMap f=l.map g
 | [],_=>rfl
 | x::l,h=>by
   rw[l4,Jm,h x (List.mem_cons_self ..),aF4 λk hk=>h k (Zb _ hk)];rfl
theorem aJG{f:Nat->List Nat}{W:List LI}(h:∀k l,W[k]?=some l->f k=[l.1]):(List.range W.length).flatMap f=W.map (·.1):=by
 rw[aF4 (g:=λk=>((W[k]?).map (·.1)).getD 0) λk hk=>?_]
 ·refine List.ext_getElem? λk=>?_;rw[z17,z17];by_cases hk:k<W.length
  ·rw[List.getElem?_range hk,z6 hk];simp[z6 hk]
  rw[z22.2 (by rw[List.length_range];omega),z22.2 zO];rfl
 obtain⟨l,hl⟩:∃l,W[k]?=some l:=⟨_,z6 (List.mem_range.1 hk)⟩;rw[h k l hl,hl];rfl
theorem aYC(h5:p.kind≠5)(hi:(aaV p elems).is=true)(he:(aaV p elems).e=0){w:List Nm}(hl:w.length<=300)(hv:w.any oZ=false){W:List LI}(hW:Gg (rW p 0) p.mn p.mx W)(hm:agA (Gf elems) W w):
 Fp p elems w=(true,w.length,0)/\((List.range w.length).flatMap λk=>ack elems (aaj p 0) (TG p elems (w.take k)).1 ((w[k]?).getD aFg))=W.map (·.1):=by
 obtain⟨kV,-⟩:=aFM hi he;have hc:=(aza kV).1;obtain⟨hg,hn,-⟩:=Vz hc h5;have hb:eU elems p=⟨elems,(fV p 0 []).1,(fV p 0 []).2.first,(fV p 0 []).2.last,(fV p 0 []).2.empty,[]⟩:=(by unfold eU;rw[j5 h5]);have dW:(eU elems p).all=[]:=(by rw[hb])
 have hac:Acc (eU elems p).places ⟨(eU elems p).first,(eU elems p).last,(eU elems p).empty⟩ W:=by
  rw[hb];exact((xI hg hn 0 []).ok.acc W).2 hW
 have lT:=agv elems p;have ht:Tol (eU elems p) (aaj p 0) [0] W w:=aJy (MH hc) (FW hc) (λs x hx=>af4 hc hx) (og.2 rfl) (.refl _) (aQo dW hac) (by rw[lT];exact hm)
 have DK:azZ (eU elems p) w w.length:=λj hj=>by
  obtain⟨l,-,-,-,-,-,h⟩:=aFO ht j _ (z6 hj);exact h
 constructor
 ·have h1:=aPM (zR _) DK;rw[List.take_length] at h1;unfold Fp;rw[hc,j5 zP,j5 zO,hv,j5 zP,h1];have h2:=aJz ht;unfold acW;rw[List.take_length,h2]
 rw[<-az3 hm];refine aJG λk l hk=>?_;have Md:k<w.length:=(by rw[<-az3 hm];exact(z4.1 hk).1);obtain⟨n,hn⟩:∃n,w[k]?=some n:=⟨_,z6 Md⟩;obtain⟨l',h1,h2,h3,h4,h6,-⟩:=aFO ht k n hn;obtain rfl:l=l':=zI (hk.symm.trans h1)
 have h7:TG p elems (w.take k)=(nextL (eU elems p) (acW (eU elems p) w k),qA (eU elems p) (acW (eU elems p) w k),0):=by
  have h6':EX (acW (eU elems p) w k) (aao (eU elems p))=true:=h6;rw[aGj hc hl hv,j6 h6']
 rw[hn,h7,Option.getD_some];have aYM:=aNA hi he hv hn (λj hj=>DK j zO) h6
 have oO:l.1∈ack elems (aaj p 0) (nextL (eU elems p) (acW (eU elems p) w k)) n:=by
  refine List.mem_filter.2 ⟨h3,?_⟩;unfold apU
  cases hk:lkP (aaj p 0) l.1 with
  | none=>
    exfalso;unfold lkP at hk;rw[Option.map_eq_none_iff,List.find?_eq_none] at hk;have:=hk l h2;simp at this
  | some q=>
    obtain rfl:=aAh (J5 hc).2.2.2.2.1 (aRA hk) h2;rw[lT] at h4;exact h4
 show ack elems (aaj p 0) (nextL (eU elems p) (acW (eU elems p) w k)) n=[l.1]
 cases hB:ack elems (aaj p 0) (nextL (eU elems p) (acW (eU elems p) w k)) n with
 | nil=>rw[hB] at oO;cases oO
 | cons i r=>
   cases r with
   | cons j r=>exact absurd hB (aYM i j r)
   | nil=>
     rw[hB,og] at oO;rw[oO]
theorem aUg(hc:kN elems p=0)(h5:p.kind≠5){w:List Nm}(hl:w.length<=300)(hv:w.any oZ=false):(Fp p elems w).1=true↔∃W,Gg (rW p 0) p.mn p.mx W/\agA (Gf elems) W w:=by
 have h1:(Fp p elems w).1=(QK (eU elems p) (aao (eU elems p)) w 0 [0]).1:=by
  unfold Fp;rw[hc,j5 zP,j5 zO,hv,j5 zP]
 rw[h1,azM hc h5 (azR _),<-adi (agC (Gf elems) p 0),<-ajL];rfl
theorem aAs{m:eQ}{lv:List Nat}:∀(w:List Nm) (i:Nat) (set:List Nat) {b:Bool} {K:Nat},QK m lv w i set=(b,K)->i<=K/\K<=i+w.length/\∀j,i+j<K->EX ((w.take (j+1)).foldl (lZ m) set) lv=true
 | [],i,set,b,K,h=>by
   rw[QK] at h;obtain⟨-,rfl⟩:=Prod.mk.inj h;exact⟨zR _,Nat.le_add_right ..,λj hj=>by omega⟩
 | n::w,i,set,b,K,h=>by
   rw[QK] at h;by_cases hm:EX (lZ m set n) lv=true
   ·rw[j6 hm] at h;obtain⟨h1,h2,h3⟩:=aAs w (i+1) _ h;refine⟨zO,by rw[z9];omega,λj hj=>?_⟩
    cases j with
    | zero=>exact hm
    | succ j=>exact h3 j zO
   rw[j5 hm] at h;obtain⟨-,rfl⟩:=Prod.mk.inj h;exact⟨zR _,Nat.le_add_right ..,λj hj=>by omega⟩
theorem aUh(hc:kN elems p=0){w:List Nm}(hl:w.length<=300)(hv:w.any oZ=false):∃b K,Fp p elems w=(b,K,0)/\K<=w.length/\∀i,i<K->(TG p elems (w.take i)).2.2=0:=by
 refine⟨_,_,by unfold Fp;rw[hc,j5 zP,j5 zO,hv,j5 zP],?_⟩;obtain⟨-,h2,h3⟩:=aAs w 0 [0] (m:=eU elems p) (lv:=aao (eU elems p)) rfl;refine⟨zO,λi hi=>?_⟩;rw[aGj hc hl hv,j6 ?_]
 cases i with
 | succ i=>exact h3 i zO
 | zero=>
   rw[aMx]
   cases hm:EX [0] (aao (eU elems p)) with
   | true=>rfl
   | false=>
     have h4:=h3 0 zO
     cases w with
     | nil=>have h5:(QK (eU elems p) (aao (eU elems p)) [] 0 [0]).2=0:=rfl;omega
     | cons n w=>
       have h5:EX (lZ (eU elems p) [0] n) (aao (eU elems p))=true:=h4;rw[aJx hc hm n] at h5;cases h5
end
def atq(A:List Nm->List Nat->Prop):Nat->List Nm->List Nat->Prop
 | 0=>λw s=>w=[]/\s=[]
 | n+1=>λw s=>∃u v f r,w=u++v/\s=f++r/\A u f/\atq A n v r
def aFQ(A:List Nm->List Nat->Prop)(mn mx:Int)(w:List Nm)(s:List Nat):Prop:=∃n:Nat,mn<=n/\(mx= -1\/(n:Int)<=mx)/\atq A n w s
theorem aFU(hA:∀w s,A w s->s.length=w.length):∀{n:Nat} {w:List Nm} {s:List Nat},atq A n w s->s.length=w.length
 | 0,_,_,⟨rfl,rfl⟩=>rfl
 | n+1,_,_,⟨u,v,f,r,rfl,rfl,h1,h2⟩=>by rw[z5,z5,hA u f h1,aFU hA h2]
theorem ayE(hA:∀w s,A w s->s.length=w.length):∀{n:Nat} {w:List Nm} {s:List Nat},w≠[]->atq A n w s->∃i k f r,0<i/\i<=w.length/\k<n/\s=f++r/\A (w.take i) f/\atq A k (w.drop i) r
 | 0,_,_,hw,h=>absurd h.1 hw
 | n+1,w,s,hw,⟨u,v,f,r,e1,e2,h1,h2⟩=>by
   cases u with
   | nil=>
     have hf:f=[]:=List.length_eq_zero_iff.1 (hA _ _ h1);subst hf;rw[d6] at e1 e2;subst e1;subst e2;obtain⟨i,k,f',r',a,b,c,d,g1,g2⟩:=ayE hA hw h2;exact⟨i,k,f',r',a,b,zO,d,g1,g2⟩
   | cons x u=>
     subst e1;refine⟨(x::u).length,n,f,r,zP,zP,zO,e2,?_,?_⟩
     ·rw[List.take_left];exact h1
     rw[List.drop_left];exact h2
theorem aJI(hA:∀w s,A w s->s.length=w.length)(h0:0<=low)(hh:high= -1\/low<=high):
 aFQ A low high w s↔(w=[]/\s=[]/\low=0)\/(high≠0/\∃i,i<=w.length/\¬(i=0/\low=0)/\∃f r,s=f++r/\A (w.take i) f/\aFQ A (max (low - 1) 0) (max (high - 1) (-1)) (w.drop i) r):=by
 constructor
 ·rintro⟨n,h1,h2,h3⟩;by_cases hl:low=0
  ·by_cases hw:w=[]
   ·subst hw;exact .inl ⟨rfl,List.length_eq_zero_iff.1 (aFU hA h3),hl⟩
   obtain⟨i,k,f,r,a,b,c,d,g1,g2⟩:=ayE hA hw h3;exact .inr ⟨zO,i,b,zO,f,r,d,g1,k,zO,zO,g2⟩
  cases n with
  | zero=>omega
  | succ n=>
    obtain⟨u,v,f,r,rfl,rfl,h4,h5⟩:=h3;exact .inr ⟨zO,u.length,zP,zO,f,r,rfl,by rw[List.take_left];exact h4,n,zO,zO,by rw[List.drop_left];exact h5⟩
 rintro (⟨rfl,rfl,rfl⟩ | ⟨dD,i,hi,hz,f,r,rfl,h3,n,h4,h5,h6⟩)
 ·exact⟨0,zO,zO,rfl,rfl⟩
 exact⟨n+1,zO,zO,w.take i,w.drop i,f,r,(List.take_append_drop i w).symm,rfl,h3,h6⟩
def aa0(acc:aJ->Nm->Bool)(L:List LI->Prop)(w:List Nm)(s:List Nat):Prop:=∃W,L W/\agA acc W w/\W.map (·.1)=s
section
variable {acc:aJ->Nm->Bool}
theorem avq{L:List LI->Prop}{w:List Nm}{s:List Nat}(h:aa0 acc L w s):s.length=w.length:=by
 obtain⟨W,-,h1,rfl⟩:=h;rw[z8,az3 h1]
theorem aFV{L M:List LI->Prop}{w:List Nm}{s:List Nat}:aa0 acc (qO L M) w s↔∃u v f r,w=u++v/\s=f++r/\aa0 acc L u f/\aa0 acc M v r:=by
 constructor
 ·rintro⟨W,⟨U,V,rfl,h1,h2⟩,hm,rfl⟩;obtain⟨u,v,rfl,a,b⟩:=aeP.1 hm;exact⟨u,v,_,_,rfl,Qb,⟨U,h1,a,rfl⟩,⟨V,h2,b,rfl⟩⟩
 rintro⟨u,v,f,r,rfl,rfl,⟨U,h1,a,rfl⟩,⟨V,h2,b,rfl⟩⟩;exact⟨U++V,⟨U,V,rfl,h1,h2⟩,aeP.2 ⟨u,v,rfl,a,b⟩,Qb⟩
theorem aFW{w:List Nm}{s:List Nat}:aa0 acc (λW=>W=[]) w s↔w=[]/\s=[]:=by
 constructor
 ·rintro⟨W,rfl,hm,rfl⟩
  cases w with
  | nil=>exact⟨rfl,rfl⟩
  | cons n w=>exact hm.elim
 rintro⟨rfl,rfl⟩;exact⟨[],rfl,trivial,rfl⟩
theorem al0{L:List LI->Prop}:∀{n:Nat} {w:List Nm} {s:List Nat},aa0 acc (qP L n) w s↔atq (aa0 acc L) n w s
 | 0,_,_=>aFW
 | n+1,w,s=>by
   show aa0 acc (qO L (qP L n)) w s↔_;rw[aFV];exact⟨λ⟨u,v,f,r,a,b,c,d⟩=>⟨u,v,f,r,a,b,c,al0.1 d⟩,λ⟨u,v,f,r,a,b,c,d⟩=>⟨u,v,f,r,a,b,c,al0.2 d⟩⟩
theorem aNE{L:List LI->Prop}{mn mx:Int}{w:List Nm}{s:List Nat}:aa0 acc (Gg L mn mx) w s↔aFQ (aa0 acc L) mn mx w s:=by
 constructor
 ·rintro⟨W,⟨n,a,b,c⟩,hm,e⟩;exact⟨n,a,b,al0.1 ⟨W,c,hm,e⟩⟩
 rintro⟨n,a,b,c⟩;obtain⟨W,c,hm,e⟩:=al0.2 c;exact⟨W,⟨n,a,b,c⟩,hm,e⟩
theorem aQp{L M:List LI->Prop}{w:List Nm}{s:List Nat}:aa0 acc (λW=>L W\/M W) w s↔aa0 acc L w s\/aa0 acc M w s:=by
 constructor
 ·rintro⟨W,h | h,hm,e⟩
  ·exact .inl ⟨W,h,hm,e⟩
  exact .inr ⟨W,h,hm,e⟩
 rintro (⟨W,h,hm,e⟩ | ⟨W,h,hm,e⟩)
 ·exact⟨W,.inl h,hm,e⟩
 exact⟨W,.inr h,hm,e⟩
theorem aNF{x:LI}{w:List Nm}{s:List Nat}:aa0 acc (λW=>W=[x]) w s↔∃n,w=[n]/\acc x.2 n=true/\s=[x.1]:=by
 constructor
 ·rintro⟨W,rfl,hm,rfl⟩
  match w,hm with
  | [n],hm=>exact⟨n,rfl,hm.1,rfl⟩
  | [],hm=>exact hm.elim
  | _::_::_,hm=>exact hm.2.elim
 rintro⟨n,rfl,h,rfl⟩;exact⟨[x],rfl,⟨h,trivial⟩,rfl⟩
end
def ajt(acc:aJ->Nm->Bool)(p:aJ)(num:Nat)(low high:Int):List Nm->List Nat->Prop:=aa0 acc (Gg (rW p num) low high)
def agU(acc:aJ->Nm->Bool)(p:aJ)(num:Nat):List Nm->List Nat->Prop:=aa0 acc (rW p num)
def ajV(acc:aJ->Nm->Bool)(l:List aJ)(num:Nat):List Nm->List Nat->Prop:=aa0 acc (NG l num)
def akw(acc:aJ->Nm->Bool)(l:List aJ)(num:Nat):List Nm->List Nat->Prop:=aa0 acc (JG l num)
section
variable {acc:aJ->Nm->Bool} {p:aJ} {l:List aJ} {num:Nat} {w:List Nm} {s:List Nat}
theorem aYD{low high:Int}(h0:0<=low)(hh:high= -1\/low<=high):ajt acc p num low high w s↔(w=[]/\s=[]/\low=0)\/(high≠0/\∃i,i<=w.length/\¬(i=0/\low=0)/\∃f r,s=f++r/\agU acc p num (w.take i) f/\ajt acc p num (max (low - 1) 0) (max (high - 1) (-1)) (w.drop i) r):=by
 unfold ajt agU;simp only[aNE];exact aJI (λ_ _ h=>avq h) h0 hh
theorem aYE{k mn mx el:Int}{c:aT}{pr:Int}{args:List aJ}(hk:fD k=true):agU acc (.mk k mn mx el c pr args) num w s↔∃n,w=[n]/\acc (.mk k mn mx el c pr args) n=true/\s=[num]:=by
 unfold agU
 have:rW (.mk k mn mx el c pr args) num=λw=>w=[(num,.mk k mn mx el c pr args)]:=by
  funext W;rw[rW];exact j6 hk
 rw[this];exact aNF
theorem aYR{k mn mx el:Int}{c:aT}{pr:Int}{args:List aJ}(hk:fD k=false)(h3:k=3):agU acc (.mk k mn mx el c pr args) num w s↔ajV acc args (num+1) w s:=by
 unfold agU ajV
 have:rW (.mk k mn mx el c pr args) num=NG args (num+1):=by
  funext W;rw[rW];exact(j5 (by rw[hk];simp)).trans (j6 h3)
 rw[this]
theorem aYS{k mn mx el:Int}{c:aT}{pr:Int}{args:List aJ}(hk:fD k=false)(h3:k≠3):agU acc (.mk k mn mx el c pr args) num w s↔akw acc args (num+1) w s:=by
 unfold agU akw
 have:rW (.mk k mn mx el c pr args) num=JG args (num+1):=by
  funext W;rw[rW];exact(j5 (by rw[hk];simp)).trans (j5 h3)
 rw[this]
theorem aYT:ajV acc [] num w s↔w=[]/\s=[]:=by
 unfold ajV
 have:NG [] num=λw=>w=[]:=by
  funext W;rw[NG]
 rw[this];exact aFW
theorem aYN:ajV acc (p::l) num w s↔∃i,i<=w.length/\∃f r,s=f++r/\ajt acc p num p.mn p.mx (w.take i) f/\ajV acc l (num+dh p) (w.drop i) r:=by
 unfold ajV ajt;have:NG (p::l) num=qO (Gg (rW p num) p.mn p.mx) (NG l (num+dh p)):=(by rw[NG]);rw[this,aFV];constructor
 ·rintro⟨u,v,f,r,rfl,h,h1,h2⟩;exact⟨u.length,zP,f,r,h,by rw[List.take_left];exact h1,by rw[List.drop_left];exact h2⟩
 rintro⟨i,hi,f,r,h,h1,h2⟩;exact⟨_,_,f,r,(List.take_append_drop i w).symm,h,h1,h2⟩
theorem aYU:¬akw acc [] num w s:=by
 rintro⟨W,h,-⟩;rw[JG] at h;exact h
theorem aYO:akw acc (p::l) num w s↔ajt acc p num p.mn p.mx w s\/akw acc l (num+dh p) w s:=by
 unfold akw ajt
 have:JG (p::l) num=λW=>Gg (rW p num) p.mn p.mx W\/JG l (num+dh p) W:=by
  funext W;rw[JG]
 rw[this];exact aQp
theorem aYV{low high:Int}(h:ajt acc p num low high w s):s.length=w.length:=avq h
theorem aYW(h:agU acc p num w s):s.length=w.length:=avq h
end
def ayI(s:List Nat)(l:List (List Nat)):List (List Nat):=if s∈l then l else l++[s]
theorem aYP{x:List Nat}:x∈ayI s l↔x∈l\/x=s:=by
 unfold ayI
 split
 ·rename_i h;exact⟨.inl,λh'=>h'.elim id λe=>e ▸ h⟩
 rw[z12,og]
theorem aUk(h:l.Nodup):(ayI s l).Nodup:=by
 unfold ayI
 split
 ·exact h
 rename_i hn;rw[List.nodup_append];exact⟨h,zP,λa ha b hb e=>by rw[og] at hb;subst hb;subst e;exact hn ha⟩
def aF0(N:Nat):Nat->List (List Nat)
 | 0=>[[]]
 | n+1=>(List.range N).flatMap λx=>(aF0 N n).map (x:: ·)
theorem aF1(N:Nat):∀n,(aF0 N n).length=N ^ n
 | 0=>rfl
 | n+1=>by
   rw[aF0,List.length_flatMap];simp only[z8,aF1 N n];rw[List.map_const',List.sum_replicate_nat,List.length_range,Nat.pow_succ,Nat.mul_comm]
theorem aF2:∀{n:Nat} {s:List Nat},s.length=n->(∀x∈s,x<N)->s∈aF0 N n
 | 0,s,h,_=>by rw[List.length_eq_zero_iff.1 h];exact og.2 rfl
 | n+1,[],h,_=>by simp at h
 | n+1,x::s,h,hx=>by
   rw[aF0,List.mem_flatMap];exact⟨x,List.mem_range.2 (hx x (List.mem_cons_self ..)),List.mem_map.2 ⟨s,aF2 (by simpa using h) (λy hy=>hx y (Zb _ hy)),rfl⟩⟩
theorem aF3:∀{a b:List (List Nat)},a.Nodup->(∀x∈a,x∈b)->a.length<=b.length
 | [],_,_,_=>Nat.zero_le _
 | x::a,b,h,hs=>by
   rw[List.nodup_cons] at h;have hx:=hs x (List.mem_cons_self ..);have h1:=aF3 (a:=a) (b:=b.erase x) h.2 λy hy=>(List.mem_erase_of_ne λe=>h.1 (by rw[<-e];exact hy)).2 (hs y (Zb _ hy));rw[List.length_erase_of_mem hx] at h1;have:=List.length_pos_of_mem hx;rw[z9];omega
theorem few(h:l.Nodup)(hs:∀s∈l,s.length=n/\∀x∈s,x<N):l.length<=N ^ n:=by
 rw[<-aF1 N n];exact aF3 h λs hx=>aF2 (hs s hx).1 (hs s hx).2
theorem al9{P:Nat->Prop}(h:∀W,L W->∀x∈W,P x.1):∀(n:Nat) (W:List LI),qP L n W->∀x∈W,P x.1
 | 0,W,e,x,hx=>by have e':W=[]:=e;rw[e'] at hx;cases hx
 | n+1,W,⟨U,V,e,h1,h2⟩,x,hx=>by
   rw[e] at hx
   rcases z12.1 hx with hx | hx
   ·exact h U h1 x hx
   exact al9 h n V h2 x hx
mutual
theorem akR:∀(p:aJ) (num:Nat) (W:List LI),rW p num W->∀x∈W,x.1<num+dh p
 | .mk k mn mx el c pr args,num,W,h,x,hx=>by
   rw[rW] at h;rw[dh]
   split at h
   ·rw[h,og] at hx;rw[hx];show num<_;omega
   split at h
   ·have:=atr args (num+1) W h x hx;omega
   have:=att args (num+1) W h x hx;omega
theorem atr:∀(l:List aJ) (num:Nat) (W:List LI),NG l num W->∀x∈W,x.1<num+dZ l
 | [],num,W,h,x,hx=>by rw[NG] at h;rw[h] at hx;cases hx
 | p::l,num,W,h,x,hx=>by
   rw[NG] at h;obtain⟨U,V,e,⟨n,-,-,h1⟩,h2⟩:=h;rw[dZ];rw[e] at hx
   rcases z12.1 hx with hx | hx
   ·have:=al9 (P:=(· <num+dh p)) (λW hW x hx=>akR p num W hW x hx) n U h1 x hx;omega
   have:=atr l _ V h2 x hx;omega
theorem att:∀(l:List aJ) (num:Nat) (W:List LI),JG l num W->∀x∈W,x.1<num+dZ l
 | [],num,W,h,x,hx=>by rw[JG] at h;exact h.elim
 | p::l,num,W,h,x,hx=>by
   rw[JG] at h;rw[dZ]
   rcases h with ⟨n,-,-,h1⟩ | h
   ·have:=al9 (P:=(· <num+dh p)) (λW hW x hx=>akR p num W hW x hx) n W h1 x hx;omega
   have:=att l _ W h x hx;omega
end
theorem aph(h:∀W,L W->∀x∈W,x.1<N)(hs:aa0 acc L w s):∀x∈s,x<N:=by
 obtain⟨W,h1,-,rfl⟩:=hs;intro x hx;obtain⟨y,hy,rfl⟩:=List.mem_map.1 hx;exact h W h1 y hy
theorem aYX(hs:ajt acc p num low high w s):∀x∈s,x<num+dh p:=
 aph (λW ⟨n,_,_,h⟩=>al9 (P:=(· <num+dh p)) (λW hW x hx=>akR p num W hW x hx) n W h) hs
theorem aYY(hs:agU acc p num w s):∀x∈s,x<num+dh p:=aph (λW hW=>akR p num W hW) hs
theorem aYZ{l:List aJ}(hs:ajV acc l num w s):∀x∈s,x<num+dZ l:=aph (λW hW=>atr l num W hW) hs
