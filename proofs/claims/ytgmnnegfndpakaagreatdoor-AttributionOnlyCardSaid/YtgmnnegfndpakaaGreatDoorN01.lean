import Derived.Test.YtgmnnegfndpakaaGreatDoorT01
import Derived.Test.YtgmnnegfndpakaaGreatDoorJ02
import Derived.Test.YtgmnnegfndpakaaGreatDoorH35
set_option maxHeartbeats 20000000
set_option maxRecDepth 100000
namespace Go.Proofs.YtgmnnegfndpakaaGreatDoor
open Go.RowKit
variable{acc:aJ->Nm->Bool}{L:List LI->Prop}{w:List Nm}{A B:List Nm->Prop}{m:eQ}
def adW(A:List Nm->Prop):Nat->List Nm->Prop
 | 0=>λw=>w=[]
 | n+1=>λw=>∃u v,w=u++v/\A u/\adW A n v
def aaw(A:List Nm->Prop)(mn mx:Int)(w:List Nm):Prop:=∃n:Nat,mn<=n/\(mx= -1\/(n:Int)<=mx)/\adW A n w
def agA(acc:aJ->Nm->Bool):List LI->List Nm->Prop
 | [],[]=>True
 | l::W,n::w=>acc l.2 n=true/\agA acc W w
 | _,_=>False
theorem az3:∀{W:List LI} {w:List Nm},agA acc W w->W.length=w.length
 | [],[],_=>rfl
 | _::_,_::_,h=>by rw[z9,z9,az3 h.2]
 | [],_::_,h=>h.elim
 | _::_,[],h=>h.elim
theorem aeP:∀{U V:List LI} {w:List Nm},agA acc (U++V) w↔∃u v,w=u++v/\agA acc U u/\agA acc V v
 | [],V,w=>by
   constructor
   ·intro h;exact⟨[],w,rfl,trivial,h⟩
   rintro⟨u,v,rfl,h1,h2⟩
   cases u with
   | nil=>exact h2
   | cons x u=>exact h1.elim
 | l::U,V,w=>by
   constructor
   ·intro h
    cases w with
    | nil=>exact h.elim
    | cons n w=>
      obtain⟨u,v,rfl,h1,h2⟩:=aeP.1 h.2;exact⟨n::u,v,rfl,⟨h.1,h1⟩,h2⟩
   rintro⟨u,v,rfl,h1,h2⟩
   cases u with
   | nil=>exact h1.elim
   | cons n u=>exact⟨h1.1,aeP.2 ⟨u,v,rfl,h1.2,h2⟩⟩
def den(acc:aJ->Nm->Bool)(L:List LI->Prop)(w:List Nm):Prop:=∃W,L W/\agA acc W w
theorem atU{M:List LI->Prop}:den acc (qO L M) w↔∃u v,w=u++v/\den acc L u/\den acc M v:=by
 constructor
 ·rintro⟨_,⟨U,V,rfl,h1,h2⟩,h3⟩;obtain⟨u,v,rfl,h4,h5⟩:=aeP.1 h3;exact⟨u,v,rfl,⟨U,h1,h4⟩,V,h2,h5⟩
 rintro⟨u,v,rfl,⟨U,h1,h2⟩,V,h3,h4⟩;exact⟨U++V,⟨U,V,rfl,h1,h3⟩,aeP.2 ⟨u,v,rfl,h2,h4⟩⟩
theorem atV:den acc (λW=>W=[]) w↔w=[]:=by
 constructor
 ·rintro⟨W,rfl,h⟩
  cases w with
  | nil=>rfl
  | cons n w=>exact h.elim
 rintro rfl;exact⟨[],rfl,trivial⟩
theorem den_pow:∀{n:Nat} {w:List Nm},den acc (qP L n) w↔adW (den acc L) n w
 | 0,w=>atV
 | n+1,w=>by
   show den acc (qO L (qP L n)) w↔∃u v,w=u++v/\den acc L u/\adW (den acc L) n v;rw[atU];exact⟨λ⟨u,v,e,h1,h2⟩=>⟨u,v,e,h1,den_pow.1 h2⟩,λ⟨u,v,e,h1,h2⟩=>⟨u,v,e,h1,den_pow.2 h2⟩⟩
theorem ajL{mn mx:Int}:den acc (Gg L mn mx) w↔aaw (den acc L) mn mx w:=by
 constructor
 ·rintro⟨W,⟨n,h1,h2,h3⟩,h4⟩;exact⟨n,h1,h2,den_pow.1 ⟨W,h3,h4⟩⟩
 rintro⟨n,h1,h2,h3⟩;obtain⟨W,h4,h5⟩:=den_pow.2 h3;exact⟨W,⟨n,h1,h2,h4⟩,h5⟩
theorem aEH{x:LI}:den acc (λW=>W=[x]) w↔∃n,w=[n]/\acc x.2 n=true:=by
 constructor
 ·rintro⟨W,rfl,h⟩
  match w,h with
  | [n],h=>exact⟨n,rfl,h.1⟩
  | _::_::_,h=>exact h.2.elim
 rintro⟨n,rfl,h⟩;exact⟨[x],rfl,h,trivial⟩
mutual
def aeQ(acc:aJ->Nm->Bool):aJ->List Nm->Prop
 | .mk k mn mx el c pr args=>λw=>if fD k=true then ∃n,w=[n]/\acc (.mk k mn mx el c pr args) n=true else if k=3 then afY acc args w else aqE acc args w
def afY(acc:aJ->Nm->Bool):List aJ->List Nm->Prop
 | []=>λw=>w=[]
 | p::l=>λw=>∃u v,w=u++v/\aaw (aeQ acc p) p.mn p.mx u/\afY acc l v
def aqE(acc:aJ->Nm->Bool):List aJ->List Nm->Prop
 | []=>λ_=>False
 | p::l=>λw=>aaw (aeQ acc p) p.mn p.mx w\/aqE acc l w
end
theorem adh(h:∀w,A w↔B w):∀(n:Nat) (w:List Nm),adW A n w↔adW B n w
 | 0,_=>Iff.rfl
 | n+1,_=>⟨λ⟨u,v,e,h1,h2⟩=>⟨u,v,e,(h u).1 h1,(adh h n v).1 h2⟩,λ⟨u,v,e,h1,h2⟩=>⟨u,v,e,(h u).2 h1,(adh h n v).2 h2⟩⟩
theorem adi(h:∀w,A w↔B w)(mn mx:Int)(w:List Nm):aaw A mn mx w↔aaw B mn mx w:=
 ⟨λ⟨n,h1,h2,h3⟩=>⟨n,h1,h2,(adh h n w).1 h3⟩,λ⟨n,h1,h2,h3⟩=>⟨n,h1,h2,(adh h n w).2 h3⟩⟩
mutual
theorem agC(acc:aJ->Nm->Bool):∀(p:aJ) (num:Nat) (w:List Nm),den acc (rW p num) w↔aeQ acc p w
 | .mk k mn mx el c pr args,num,w=>by
   rw[aeQ];dsimp only;by_cases h:fD k=true
   ·rw[j6 h]
    have e:rW (.mk k mn mx el c pr args) num=λW=>W=[(num,.mk k mn mx el c pr args)]:=by
     funext W;rw[rW];exact j6 h
    rw[e];exact aEH
   rw[j5 h];by_cases h3:k=3
   ·rw[j6 h3]
    have e:rW (.mk k mn mx el c pr args) num=NG args (num+1):=by
     funext W;rw[rW];exact(j5 h).trans (j6 h3)
    rw[e];exact aqF acc args (num+1) w
   rw[j5 h3]
   have e:rW (.mk k mn mx el c pr args) num=JG args (num+1):=by
    funext W;rw[rW];exact(j5 h).trans (j5 h3)
   rw[e];exact aqH acc args (num+1) w
theorem aqF(acc:aJ->Nm->Bool):∀(l:List aJ) (num:Nat) (w:List Nm),den acc (NG l num) w↔afY acc l w
 | [],num,w=>by
   rw[afY];have e:NG [] num=λW=>W=[]:=(by funext W;rw[NG]);rw[e];exact atV
 | p::l,num,w=>by
   rw[afY];have e:NG (p::l) num=qO (Gg (rW p num) p.mn p.mx) (NG l (num+dh p)):=(by rw[NG]);rw[e,atU];have h1:∀u,den acc (Gg (rW p num) p.mn p.mx) u↔aaw (aeQ acc p) p.mn p.mx u:=λu=>ajL.trans (adi (agC acc p num) _ _ _);have h2:=aqF acc l (num+dh p);exact⟨λ⟨u,v,e,a,b⟩=>⟨u,v,e,(h1 u).1 a,(h2 v).1 b⟩,λ⟨u,v,e,a,b⟩=>⟨u,v,e,(h1 u).2 a,(h2 v).2 b⟩⟩
theorem aqH(acc:aJ->Nm->Bool):∀(l:List aJ) (num:Nat) (w:List Nm),den acc (JG l num) w↔aqE acc l w
 | [],num,w=>by
   rw[aqE];have e:JG [] num=λ_=>False:=(by funext W;rw[JG]);rw[e];exact⟨λ⟨W,h,_⟩=>h.elim,λh=>h.elim⟩
 | p::l,num,w=>by
   rw[aqE];have e:JG (p::l) num=λW=>Gg (rW p num) p.mn p.mx W\/JG l (num+dh p) W:=(by funext W;rw[JG]);rw[e];have h1:den acc (Gg (rW p num) p.mn p.mx) w↔aaw (aeQ acc p) p.mn p.mx w:=ajL.trans (adi (agC acc p num) _ _ _);have h2:=aqH acc l (num+dh p) w;constructor
   ·rintro⟨W,h | h,hm⟩
    ·exact .inl (h1.1 ⟨W,h,hm⟩)
    exact .inr (h2.1 ⟨W,h,hm⟩)
   rintro (h | h)
   ·obtain⟨W,a,b⟩:=h1.2 h;exact⟨W,.inl a,b⟩
   obtain⟨W,a,b⟩:=h2.2 h;exact⟨W,.inr a,b⟩
end
theorem ak7(dW:m.all=[])(j:Nat):wH m (j+1)=true↔j∈m.last:=by
 unfold wH;rw[dW];simp
theorem agf(dW:m.all=[]):∀(w:List Nm) (j:Nat),j<m.places.length->((∃t,Way m (j+1) w t/\wH m t=true)↔∃V,xk m.places m.last j V/\agA (Gf m.elems) V w)
 | [],j,hj=>by
   constructor
   ·rintro⟨t,h,hf⟩;cases h;exact⟨[],.stop ((ak7 dW j).1 hf),trivial⟩
   rintro⟨V,h,hm⟩
   cases h with
   | stop h=>exact⟨j+1,.nil _,(ak7 dW j).2 h⟩
   | go _ _ _=>exact hm.elim
 | n::w,j,hj=>by
   have xw:∀i,i∈ku m (j+1)↔yO m.places j i:=λi=>by
    unfold ku yO;rw[j5 zO,Nat.add_sub_cancel,z6 hj];simp
   constructor
   ·rintro⟨t,h,hf⟩
    cases h with
    | cons hx ha h2=>
      obtain⟨i,q,hi,hq,rfl⟩:=(acy dW).1 hx;obtain⟨V,h3,h4⟩:=(agf dW w i (z4.1 hq).1).1 ⟨t,h2,hf⟩;exact⟨(q.num,q.leaf)::V,.go ((xw i).1 hi) (by unfold sG;rw[hq];rfl) h3,ha,h4⟩
   rintro⟨V,h,hm⟩
   cases h with
   | stop _=>exact hm.elim
   | @go _ i l V hf hl hs=>
     obtain⟨q,hq,rfl⟩:=Option.map_eq_some_iff.1 hl;obtain⟨t,h3,h4⟩:=(agf dW w i (z4.1 hq).1).2 ⟨V,hs,hm.2⟩;exact⟨t,.cons ((acy dW).2 ⟨i,q,(xw i).2 hf,hq,rfl⟩) hm.1 h3,h4⟩
theorem aEI(dW:m.all=[])(w:List Nm):(∃t,Way m 0 w t/\wH m t=true)↔den (Gf m.elems) (Acc m.places ⟨m.first,m.last,m.empty⟩) w:=by
 have f0:wH m 0=true↔m.empty=true:=by
  unfold wH;rw[dW];simp
 cases w with
 | nil=>
   constructor
   ·rintro⟨t,h,hf⟩;cases h;exact⟨[],.inl ⟨rfl,f0.1 hf⟩,trivial⟩
   rintro⟨W,h,hm⟩
   rcases h with ⟨rfl,he⟩ | ⟨j,l,v,-,-,rfl,-⟩
   ·exact⟨0,.nil _,f0.2 he⟩
   exact hm.elim
 | cons n w=>
   constructor
   ·rintro⟨t,h,hf⟩
    cases h with
    | cons hx ha h2=>
      obtain⟨i,q,hi,hq,rfl⟩:=(acy dW).1 hx;obtain⟨V,h3,h4⟩:=(agf dW w i (z4.1 hq).1).1 ⟨t,h2,hf⟩;exact⟨(q.num,q.leaf)::V,.inr ⟨i,_,V,by simpa[ku] using hi,by unfold sG;rw[hq];rfl,rfl,h3⟩,ha,h4⟩
   rintro⟨W,h,hm⟩
   rcases h with ⟨rfl,he⟩ | ⟨i,l,V,hi,hl,rfl,hs⟩
   ·exact hm.elim
   obtain⟨q,hq,rfl⟩:=Option.map_eq_some_iff.1 hl;obtain⟨t,h3,h4⟩:=(agf dW w i (z4.1 hq).1).2 ⟨V,hs,hm.2⟩;exact⟨t,.cons ((acy dW).2 ⟨i,q,by simpa[ku] using hi,hq,rfl⟩) hm.1 h3,h4⟩
def shP(d:Nat)(pl:List aU):List aU:=pl.map λq=>{ q with num:=q.num+d }
theorem atY(d:Nat)(pl:List aU):(shP d pl).length=pl.length:=by unfold shP;rw[z8]
theorem aAi(d:Nat)(pl:List aU)(f:List Nat)(i:Nat):tZ (shP d pl) f i=shP d (tZ pl f i):=by
 unfold tZ shP;apply List.ext_getElem?;intro k;rw[List.getElem?_modify,z17,z17,List.getElem?_modify]
 cases pl[k]? with
 | none=>rfl
 | some q=>by_cases h:i=k<;>simp[h]
theorem aqY(d:Nat)(f:List Nat):∀(l:List Nat) (pl:List aU),l.foldl (λpl i=>tZ pl f i) (shP d pl)=shP d (l.foldl (λpl i=>tZ pl f i) pl)
 | [],_=>rfl
 | i::l,pl=>by rw[JN,JN,aAi,aqY d f l]
theorem ac5(d:Nat)(pl:List aU)(x y:dR):dB (shP d pl) x y=shP d (dB pl x y):=aqY _ _ _ _
def ShO(d:Nat)(o o':List aU->List aU×dR):Prop:=∀pl,o' (shP d pl)=(shP d (o pl).1,(o pl).2)
section
variable {d:Nat} {o o':List aU->List aU×dR}
theorem at1(h:ShO d o o'):∀(n:Nat) (pl:List aU) (out:dR),kY o' n (shP d pl) out=(shP d (kY o n pl out).1,(kY o n pl out).2)
 | 0,_,_=>rfl
 | n+1,pl,out=>by
   rw[kY,kY,h pl];dsimp only;rw[ac5,at1 h n]
theorem at6(h:ShO d o o'):∀(n:Nat) (pl:List aU) (out:dR),mY o' n (shP d pl) out=(shP d (mY o n pl out).1,(mY o n pl out).2)
 | 0,_,_=>rfl
 | n+1,pl,out=>by
   rw[mY,mY,h pl];dsimp only;rw[ac5,at6 h n]
theorem alA(h:ShO d o o')(mn mx z:Int):ShO d (rH o mn mx z) (rH o' mn mx z):=λpl=>by
 unfold rH;by_cases hz:z=0
 ·rw[j6 hz,j6 hz]
 rw[j5 hz,j5 hz];dsimp only;rw[at1 h];dsimp only;by_cases hm:mx= -1
 ·rw[j6 hm,j6 hm,h];dsimp only;rw[ac5,ac5]
 rw[j5 hm,j5 hm,at6 h];dsimp only;rw[ac5]
end
mutual
theorem aq0(d:Nat):∀(p:aJ) (num:Nat),ShO d (kL p num) (kL p (num+d))
 | .mk k mn mx el c pr args,num,pl=>by
   rw[kL,kL];by_cases hk:fD k=true
   ·rw[j6 hk,j6 hk,atY];unfold shP;rw[Qb];rfl
   rw[j5 hk,j5 hk,show num+d+1=num+1+d by omega];exact agR d (decide (k=3)) args (num+1) pl _
theorem agR(d:Nat):∀(sq:Bool) (l:List aJ) (num:Nat) (pl:List aU) (out:dR),pI sq l (num+d) (shP d pl) out=(shP d (pI sq l num pl out).1,(pI sq l num pl out).2)
 | _,[],_,_,_=>by rw[pI,pI]
 | sq,p::l,num,pl,out=>by
   have ht:=alA (aq0 d p num) p.mn p.mx (dC p) pl;rw[pI,pI,show rH (kL p (num+d)) p.mn p.mx (dC p) (shP d pl)=_ from ht];dsimp only;rw[show num+d+dh p=num+dh p+d by omega]
   cases sq with
   | true=>
     rw[j6 rfl,j6 rfl,ac5];exact agR d true l _ _ _
   | false=>
     rw[j5 zP,j5 zP];exact agR d false l _ _ _
end
structure ShM (m m':eQ):Prop where
 elems:m'.elems=m.elems
 all:m.all=[]/\m'.all=[]
 first:m'.first=m.first
 last:m'.last=m.last
 empty:m'.empty=m.empty
 places:m'.places=shP 1 m.places
section
variable {m m':eQ}
theorem ShM.next(h:ShM m m')(s:Nat):ku m' s=ku m s:=by
 unfold ku;rw[h.first,h.places];unfold shP;rw[z17];cases m.places[s - 1]?<;>rfl
theorem ShM.steps(h:ShM m m')(s:Nat):gK m' s=(gK m s).map λx=>{ x with num:=x.num+1 }:=by
 unfold gK;rw[h.all.1,h.all.2,h.next];simp only[List.isEmpty_nil,if_true];rw[List.map_flatMap]
 congr 1
 funext i;unfold CP;rw[h.places];unfold shP;rw[z17];cases m.places[i]?<;>rfl
theorem ShM.fin(h:ShM m m')(s:Nat):wH m' s=wH m s:=by
 unfold wH;rw[h.all.1,h.all.2,h.empty,h.last]
theorem ShM.row(h:ShM m m')(s:Nat)(st:CQ):axL m' s st=axL m s st:=by
 unfold axL;rw[h.steps,List.foldl_map]
 congr 1
 funext st x;unfold oq;rw[h.elems]
theorem ShM.loop(h:ShM m m'):∀(f k:Nat) (st:CQ),QJ m' f k st=QJ m f k st
 | 0,_,_=>rfl
 | f+1,k,st=>by
   rw[QJ,QJ]
   cases st.list[k]? with
   | none=>rfl
   | some s=>
     dsimp only;rw[h.row,h.loop f]
end
section
variable {k:Int} {p:aJ} {elems:List (List Nm)}
mutual
theorem aw9:∀(p:aJ) (num:Nat),aaj p (num+1)=(aaj p num).map λx=>(x.1+1,x.2)
 | .mk k mn mx el c pr args,num=>by
   rw[aaj,aaj]
   split
   ·rfl
   exact atc args (num+1)
theorem atc:∀(l:List aJ) (num:Nat),aaH l (num+1)=(aaH l num).map λx=>(x.1+1,x.2)
 | [],_=>rfl
 | p::l,num=>by
   rw[aaH,aaH,Qb,aw9 p num,show num+1+dh p=num+dh p+1 by omega,atc l]
end
structure UqS (u v:UqR):Prop where
 is:v.is=u.is
 e:v.e=u.e
 cl:u.e=0->u.is=false->v.a=u.a+1/\v.b=u.b+1/\v.name=u.name
end
section
variable {p:aJ} {elems:List (List Nm)}
theorem aJX(hc:kN elems p=0){w:List Nm}(hw:w.any oZ=false):(TG p elems w).2.2=0\/(TG p elems w).2.2=3\/(TG p elems w).2.2=4:=by
 unfold TG;rw[hc,j5 zP,hw]
 split
 ·exact .inr (.inl rfl)
 rw[j5 zP]
 split
 ·exact .inr (.inr rfl)
 exact .inl rfl
theorem aFd{L:List (Nat×aJ)}{a:zZ}(hc:kN elems p=0):∀{ws:List (Nat×List Nm)},(∀w∈ws,w.2.any oZ=false)->(gp p elems L a ws).e=0\/(gp p elems L a ws).e=3
 | [],_=>.inl rfl
 | w::ws,h=>by
   have ih:=aFd (L:=L) (a:=a) hc (ws:=ws) λx hx=>h x (Zb _ hx);rw[gp];by_cases h1:(TG p elems w.2).2.2=4
   ·rw[j6 h1];exact ih
   rw[j5 h1];by_cases h2:(TG p elems w.2).2.2≠0
   ·rw[j6 h2];right;show (TG p elems w.2).2.2=3;have:=aJX hc (h w (List.mem_cons_self ..));omega
   rw[j5 h2]
   cases acr elems L a (TG p elems w.2).1 (List.range a.size) with
   | some c=>exact .inl rfl
   | none=>exact ih
theorem aJU{st:Nat->Nm}{s x:Nat}{tt:Int}{d:KG}(h:∀l∈d.word,∀n∈l,∃y,n=st y):∀l∈(azJ st s d x tt).word,∀n∈l,∃y,n=st y:=by
 unfold azJ
 split
 ·intro l hl n hn
  rcases List.mem_or_eq_of_mem_set hl with h1 | h1
  ·exact h l h1 n hn
  subst h1
  rcases z12.1 hn with h2 | h2
  ·cases hw:d.word[s]? with
   | none=>rw[hw] at h2;cases h2
   | some l'=>
     rw[hw] at h2;exact h l' (SK hw) n h2
  exact⟨x,og.1 h2⟩
 exact h
theorem azW{st:Nat->Nm}{s:Nat}:∀{r:List Int} {x:Nat} {d:KG},(∀l∈d.word,∀n∈l,∃y,n=st y)->∀l∈(aFf st s r x d).word,∀n∈l,∃y,n=st y
 | [],_,_,h=>h
 | _::r,_,_,h=>azW (r:=r) (aJU h)
theorem axe{a:Aut}{st:Nat->Nm}:∀{f k:Nat} {d:KG},(∀l∈d.word,∀n∈l,∃y,n=st y)->∀w∈as5 a st f k d,∀n∈w.2,∃y,n=st y
 | 0,_,_,_,w,hw=>by cases hw
 | f+1,k,d,h,w,hw=>by
   rw[as5] at hw
   cases hk:d.list[k]? with
   | none=>rw[hk] at hw;cases hw
   | some s=>
     rw[hk] at hw
     rcases TT.1 hw with rfl | hw
     ·intro n hn
      cases hs:d.word[s]? with
      | none=>simp[hs] at hn
      | some l=>
        simp only[hs,Option.getD_some] at hn;exact h l (SK hs) n hn
     exact axe (azW h) w hw
theorem aJY(a:Aut):∀w∈azV a,∀n∈w.2,∃y,n=iJ a.alp y:=by
 refine axe ?_;intro l hl n hn
 have:l=[]:=by
  unfold aFa at hl;exact(List.mem_replicate.1 hl).2
 subst this;cases hn
theorem aFm(hc:kN elems p=0):aJr (mZ elems [p]):=by
 obtain⟨q1,q2⟩:=VW hc;have iY:mF [p]<=4000:=(by rw[mF,mF];omega);obtain⟨q3,q4⟩:=Yf (elems:=elems) (ps:=[p]) (N:=10000) zO;exact aMw (ps:=[p]) (λq hq=>by rw[og.1 hq];exact hc) (J5 hc).2.1 zO zO
theorem aJZ(hm:(DJ p elems).2=0):(DJ p elems).1.alp=mZ elems [p]:=by
 obtain⟨-,sets,rows,-,h⟩:=aza hm;rw[h];rfl
theorem aAp(hm:(DJ p elems).2=0):∀w∈azV (DJ p elems).1,w.2.any oZ=false:=by
 intro w hw;have hv:=aFm (aza hm).1;rw[List.any_eq_false];intro n hn;obtain⟨y,rfl⟩:=aJY _ w hw n hn;rw[aJZ hm,auM,aJt hv];simp
theorem aJ0(hc:kN elems p=0\/kN elems p=3):(DJ p elems).2=0\/(DJ p elems).2=3:=by
 unfold DJ
 rcases hc with hc | hc
 ·rw[j5 (by rw[hc];simp)]
  split
  ·exact .inr rfl
  exact .inl rfl
 rw[j6 (by rw[hc];simp)];exact .inr hc
theorem aS5(hc:kN elems p=0\/kN elems p=3):(aaV p elems).e=0\/(aaV p elems).e=3:=by
 unfold aaV;by_cases hm:(DJ p elems).2≠0
 ·rw[j6 hm];right;show (DJ p elems).2=3;have:=aJ0 hc;omega
 rw[j5 hm];exact aFd (aza (Decidable.of_not_not hm)).1 (aAp (Decidable.of_not_not hm))
end
