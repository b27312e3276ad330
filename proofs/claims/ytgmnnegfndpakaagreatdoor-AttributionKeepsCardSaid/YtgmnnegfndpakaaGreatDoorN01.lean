import Derived.Test.YtgmnnegfndpakaaGreatDoorT01
import Derived.Test.YtgmnnegfndpakaaGreatDoorJ02
import Derived.Test.YtgmnnegfndpakaaGreatDoorH35
set_option maxHeartbeats 20000000
set_option maxRecDepth 100000
namespace Go.Proofs.YtgmnnegfndpakaaGreatDoor
open Go.RowKit
def adW(A:List Nm->Prop):Nat->List Nm->Prop
 | 0=>λw=>w=[]
 | n+1=>λw=>∃u v,w=u++v/\A u/\adW A n v
def aaw(A:List Nm->Prop)(mn mx:Int)(w:List Nm):Prop:=∃n:Nat,mn<=n/\(mx= -1\/(n:Int)<=mx)/\adW A n w
def agA(acc:aJ->Nm->Bool):List LI->List Nm->Prop
 | [],[]=>True
 | l::W,n::w=>acc l.2 n=true/\agA acc W w
 | _,_=>False
theorem aeP{acc:aJ->Nm->Bool}:∀{U V:List LI} {w:List Nm},agA acc (U++V) w↔∃u v,w=u++v/\agA acc U u/\agA acc V v
 | [],V,w=>by
   constructor
   ·intro h;exact⟨[],w,rfl,trivial,h⟩
   rintro⟨u,v,rfl,h1,h2⟩
   cases u with
   | nil=>exact h2
   | cons x u=>exact h1.elim
 | l::U,V,w=>by
   constructor
   ·intro h
    cases w with
    | nil=>exact h.elim
    | cons n w=>
      obtain⟨u,v,rfl,h1,h2⟩:=aeP.1 h.2;exact⟨n::u,v,rfl,⟨h.1,h1⟩,h2⟩
   rintro⟨u,v,rfl,h1,h2⟩
   cases u with
   | nil=>exact h1.elim
   | cons n u=>exact⟨h1.1,aeP.2 ⟨u,v,rfl,h1.2,h2⟩⟩
def den(acc:aJ->Nm->Bool)(L:List LI->Prop)(w:List Nm):Prop:=∃W,L W/\agA acc W w
theorem atU{acc:aJ->Nm->Bool}{L M:List LI->Prop}{w:List Nm}:den acc (qO L M) w↔∃u v,w=u++v/\den acc L u/\den acc M v:=by
 constructor
 ·rintro⟨_,⟨U,V,rfl,h1,h2⟩,h3⟩;obtain⟨u,v,rfl,h4,h5⟩:=aeP.1 h3;exact⟨u,v,rfl,⟨U,h1,h4⟩,V,h2,h5⟩
 rintro⟨u,v,rfl,⟨U,h1,h2⟩,V,h3,h4⟩;exact⟨U++V,⟨U,V,rfl,h1,h3⟩,aeP.2 ⟨u,v,rfl,h2,h4⟩⟩
theorem atV{acc:aJ->Nm->Bool}{w:List Nm}:den acc (λW=>W=[]) w↔w=[]:=by
 constructor
 ·rintro⟨W,rfl,h⟩
  cases w with
  | nil=>rfl
  | cons n w=>exact h.elim
 rintro rfl;exact⟨[],rfl,trivial⟩
theorem den_pow{acc:aJ->Nm->Bool}{L:List LI->Prop}:∀{n:Nat} {w:List Nm},den acc (qP L n) w↔adW (den acc L) n w
 | 0,w=>atV
 | n+1,w=>by
   show den acc (qO L (qP L n)) w↔∃u v,w=u++v/\den acc L u/\adW (den acc L) n v;rw[atU];exact⟨λ⟨u,v,e,h1,h2⟩=>⟨u,v,e,h1,den_pow.1 h2⟩,λ⟨u,v,e,h1,h2⟩=>⟨u,v,e,h1,den_pow.2 h2⟩⟩
theorem ajL{acc:aJ->Nm->Bool}{L:List LI->Prop}{mn mx:Int}{w:List Nm}:den acc (Gg L mn mx) w↔aaw (den acc L) mn mx w:=by
 constructor
 ·rintro⟨W,⟨n,h1,h2,h3⟩,h4⟩;exact⟨n,h1,h2,den_pow.1 ⟨W,h3,h4⟩⟩
 rintro⟨n,h1,h2,h3⟩;obtain⟨W,h4,h5⟩:=den_pow.2 h3;exact⟨W,⟨n,h1,h2,h4⟩,h5⟩
theorem aEH{acc:aJ->Nm->Bool}{x:LI}{w:List Nm}:den acc (λW=>W=[x]) w↔∃n,w=[n]/\acc x.2 n=true:=by
 constructor
 ·rintro⟨W,rfl,h⟩
  match w,h with
  | [n],h=>exact⟨n,rfl,h.1⟩
  | _::_::_,h=>exact h.2.elim
 rintro⟨n,rfl,h⟩;exact⟨[x],rfl,h,trivial⟩
mutual
def aeQ(acc:aJ->Nm->Bool):aJ->List Nm->Prop
 | .mk k mn mx el c pr args=>λw=>if fD k=true then ∃n,w=[n]/\acc (.mk k mn mx el c pr args) n=true else if k=3 then afY acc args w else aqE acc args w
def afY(acc:aJ->Nm->Bool):List aJ->List Nm->Prop
 | []=>λw=>w=[]
 | p::l=>λw=>∃u v,w=u++v/\aaw (aeQ acc p) p.mn p.mx u/\afY acc l v
def aqE(acc:aJ->Nm->Bool):List aJ->List Nm->Prop
 | []=>λ_=>False
 | p::l=>λw=>aaw (aeQ acc p) p.mn p.mx w\/aqE acc l w
end
theorem adh{A B:List Nm->Prop}(h:∀w,A w↔B w):∀(n:Nat) (w:List Nm),adW A n w↔adW B n w
 | 0,_=>Iff.rfl
 | n+1,_=>⟨λ⟨u,v,e,h1,h2⟩=>⟨u,v,e,(h u).1 h1,(adh h n v).1 h2⟩,λ⟨u,v,e,h1,h2⟩=>⟨u,v,e,(h u).2 h1,(adh h n v).2 h2⟩⟩
theorem adi{A B:List Nm->Prop}(h:∀w,A w↔B w)(mn mx:Int)(w:List Nm):aaw A mn mx w↔aaw B mn mx w:=
 ⟨λ⟨n,h1,h2,h3⟩=>⟨n,h1,h2,(adh h n w).1 h3⟩,λ⟨n,h1,h2,h3⟩=>⟨n,h1,h2,(adh h n w).2 h3⟩⟩
mutual
theorem agC(acc:aJ->Nm->Bool):∀(p:aJ) (num:Nat) (w:List Nm),den acc (rW p num) w↔aeQ acc p w
 | .mk k mn mx el c pr args,num,w=>by
   rw[aeQ];dsimp only;by_cases h:fD k=true
   ·rw[if_pos h]
    have e:rW (.mk k mn mx el c pr args) num=λW=>W=[(num,.mk k mn mx el c pr args)]:=by
     funext W;rw[rW];exact if_pos h
    rw[e];exact aEH
   rw[if_neg h];by_cases h3:k=3
   ·rw[if_pos h3]
    have e:rW (.mk k mn mx el c pr args) num=NG args (num+1):=by
     funext W;rw[rW];exact(if_neg h).trans (if_pos h3)
    rw[e];exact aqF acc args (num+1) w
   rw[if_neg h3]
   have e:rW (.mk k mn mx el c pr args) num=JG args (num+1):=by
    funext W;rw[rW];exact(if_neg h).trans (if_neg h3)
   rw[e];exact aqH acc args (num+1) w
theorem aqF(acc:aJ->Nm->Bool):∀(l:List aJ) (num:Nat) (w:List Nm),den acc (NG l num) w↔afY acc l w
 | [],num,w=>by
   rw[afY];have e:NG [] num=λW=>W=[]:=(by funext W;rw[NG]);rw[e];exact atV
 | p::l,num,w=>by
   rw[afY];have e:NG (p::l) num=qO (Gg (rW p num) p.mn p.mx) (NG l (num+dh p)):=(by rw[NG]);rw[e,atU];have h1:∀u,den acc (Gg (rW p num) p.mn p.mx) u↔aaw (aeQ acc p) p.mn p.mx u:=λu=>ajL.trans (adi (agC acc p num) _ _ _);have h2:=aqF acc l (num+dh p);exact⟨λ⟨u,v,e,a,b⟩=>⟨u,v,e,(h1 u).1 a,(h2 v).1 b⟩,λ⟨u,v,e,a,b⟩=>⟨u,v,e,(h1 u).2 a,(h2 v).2 b⟩⟩
theorem aqH(acc:aJ->Nm->Bool):∀(l:List aJ) (num:Nat) (w:List Nm),den acc (JG l num) w↔aqE acc l w
 | [],num,w=>by
   rw[aqE];have e:JG [] num=λ_=>False:=(by funext W;rw[JG]);rw[e];exact⟨λ⟨W,h,_⟩=>h.elim,λh=>h.elim⟩
 | p::l,num,w=>by
   rw[aqE];have e:JG (p::l) num=λW=>Gg (rW p num) p.mn p.mx W\/JG l (num+dh p) W:=(by funext W;rw[JG]);rw[e];have h1:den acc (Gg (rW p num) p.mn p.mx) w↔aaw (aeQ acc p) p.mn p.mx w:=ajL.trans (adi (agC acc p num) _ _ _);have h2:=aqH acc l (num+dh p) w;constructor
   ·rintro⟨W,h | h,hm⟩
    ·exact .inl (h1.1 ⟨W,h,hm⟩)
    exact .inr (h2.1 ⟨W,h,hm⟩)
   rintro (h | h)
   ·obtain⟨W,a,b⟩:=h1.2 h;exact⟨W,.inl a,b⟩
   obtain⟨W,a,b⟩:=h2.2 h;exact⟨W,.inr a,b⟩
end

def shP(d:Nat)(pl:List aU):List aU:=pl.map λq=>{ q with num:=q.num+d }
theorem atY(d:Nat)(pl:List aU):(shP d pl).length=pl.length:=by unfold shP;rw[z8]
theorem aAi(d:Nat)(pl:List aU)(f:List Nat)(i:Nat):tZ (shP d pl) f i=shP d (tZ pl f i):=by
 unfold tZ shP;apply List.ext_getElem?;intro k;rw[List.getElem?_modify,z17,z17,List.getElem?_modify]
 cases pl[k]? with
 | none=>rfl
 | some q=>by_cases h:i=k<;>simp[h]
theorem aqY(d:Nat)(f:List Nat):∀(l:List Nat) (pl:List aU),l.foldl (λpl i=>tZ pl f i) (shP d pl)=shP d (l.foldl (λpl i=>tZ pl f i) pl)
 | [],_=>rfl
 | i::l,pl=>by rw[List.foldl_cons,List.foldl_cons,aAi,aqY d f l]
theorem ac5(d:Nat)(pl:List aU)(x y:dR):dB (shP d pl) x y=shP d (dB pl x y):=aqY _ _ _ _
def ShO(d:Nat)(o o':List aU->List aU×dR):Prop:=∀pl,o' (shP d pl)=(shP d (o pl).1,(o pl).2)
section
variable {d:Nat} {o o':List aU->List aU×dR}
theorem at1(h:ShO d o o'):∀(n:Nat) (pl:List aU) (out:dR),kY o' n (shP d pl) out=(shP d (kY o n pl out).1,(kY o n pl out).2)
 | 0,_,_=>rfl
 | n+1,pl,out=>by
   rw[kY,kY,h pl];dsimp only;rw[ac5,at1 h n]
theorem at6(h:ShO d o o'):∀(n:Nat) (pl:List aU) (out:dR),mY o' n (shP d pl) out=(shP d (mY o n pl out).1,(mY o n pl out).2)
 | 0,_,_=>rfl
 | n+1,pl,out=>by
   rw[mY,mY,h pl];dsimp only;rw[ac5,at6 h n]
theorem alA(h:ShO d o o')(mn mx z:Int):ShO d (rH o mn mx z) (rH o' mn mx z):=λpl=>by
 unfold rH;by_cases hz:z=0
 ·rw[if_pos hz,if_pos hz]
 rw[if_neg hz,if_neg hz];dsimp only;rw[at1 h];dsimp only;by_cases hm:mx= -1
 ·rw[if_pos hm,if_pos hm,h];dsimp only;rw[ac5,ac5]
 rw[if_neg hm,if_neg hm,at6 h];dsimp only;rw[ac5]
end
mutual
theorem aq0(d:Nat):∀(p:aJ) (num:Nat),ShO d (kL p num) (kL p (num+d))
 | .mk k mn mx el c pr args,num,pl=>by
   rw[kL,kL];by_cases hk:fD k=true
   ·rw[if_pos hk,if_pos hk,atY];unfold shP;rw[List.map_append];rfl
   rw[if_neg hk,if_neg hk,show num+d+1=num+1+d by omega];exact agR d (decide (k=3)) args (num+1) pl _
theorem agR(d:Nat):∀(sq:Bool) (l:List aJ) (num:Nat) (pl:List aU) (out:dR),pI sq l (num+d) (shP d pl) out=(shP d (pI sq l num pl out).1,(pI sq l num pl out).2)
 | _,[],_,_,_=>by rw[pI,pI]
 | sq,p::l,num,pl,out=>by
   have ht:=alA (aq0 d p num) p.mn p.mx (dC p) pl;rw[pI,pI,show rH (kL p (num+d)) p.mn p.mx (dC p) (shP d pl)=_ from ht];dsimp only;rw[show num+d+dh p=num+dh p+d by omega]
   cases sq with
   | true=>
     rw[if_pos rfl,if_pos rfl,ac5];exact agR d true l _ _ _
   | false=>
     rw[if_neg zP,if_neg zP];exact agR d false l _ _ _
end
theorem aMy(d:Nat)(p:aJ)(num:Nat)(pl:List aU):fV p (num+d) (shP d pl)=(shP d (fV p num pl).1,(fV p num pl).2):=alA (aq0 d p num) _ _ _ pl
structure ShM (m m':eQ):Prop where
 elems:m'.elems=m.elems
 all:m.all=[]/\m'.all=[]
 first:m'.first=m.first
 last:m'.last=m.last
 empty:m'.empty=m.empty
 places:m'.places=shP 1 m.places
section
variable {m m':eQ}
theorem ShM.next(h:ShM m m')(s:Nat):ku m' s=ku m s:=by
 unfold ku;rw[h.first,h.places];unfold shP;rw[z17];cases m.places[s - 1]?<;>rfl
theorem ShM.steps(h:ShM m m')(s:Nat):gK m' s=(gK m s).map λx=>{ x with num:=x.num+1 }:=by
 unfold gK;rw[h.all.1,h.all.2,h.next];simp only[List.isEmpty_nil,if_true];rw[List.map_flatMap]
 congr 1
 funext i;unfold CP;rw[h.places];unfold shP;rw[z17];cases m.places[i]?<;>rfl
theorem ShM.fin(h:ShM m m')(s:Nat):wH m' s=wH m s:=by
 unfold wH;rw[h.all.1,h.all.2,h.empty,h.last]
theorem ShM.fin'(h:ShM m m'):wH m'=wH m:=funext h.fin
theorem ShM.jD(h:ShM m m')(set:List Nat)(n:Nm):lZ m' set n=lZ m set n:=by
 unfold lZ
 congr 2
 funext s;unfold IJ;rw[h.steps,h.elems,List.filter_map,List.map_map];rfl
theorem ShM.row(h:ShM m m')(s:Nat)(st:CQ):axL m' s st=axL m s st:=by
 unfold axL;rw[h.steps,List.foldl_map]
 congr 1
 funext st x;unfold oq;rw[h.elems]
theorem ShM.loop(h:ShM m m'):∀(f k:Nat) (st:CQ),QJ m' f k st=QJ m f k st
 | 0,_,_=>rfl
 | f+1,k,st=>by
   rw[QJ,QJ]
   cases st.list[k]? with
   | none=>rfl
   | some s=>
     dsimp only;rw[h.row,h.loop f]
theorem ShM.uf(h:ShM m m'):uf m'=uf m:=by
 unfold YtgmnnegfndpakaaGreatDoor.uf;rw[h.places,atY,h.all.1,h.all.2]
theorem ShM.live(h:ShM m m'):aao m'=aao m:=by
 unfold aao gB;rw[h.uf,h.loop,h.fin']
theorem ShM.end_(h:ShM m m'):qA m'=qA m:=by
 funext set;unfold qA;rw[h.fin']
theorem ShM.aPS(h:ShM m m'):lZ m'=lZ m:=by funext set n;exact h.jD set n
theorem ShM.nxt(h:ShM m m')(live:List Nat)(s:Nat):NF m' live s=(NF m live s).map (· +1):=by
 unfold NF;rw[h.steps,h.elems,List.filter_map,List.map_map,List.map_map];rfl
end
theorem aq6(x:Nat):∀l:List Nat,Ey (x+1) (l.map (· +1))=(Ey x l).map (· +1)
 | []=>rfl
 | y::l=>by
   rw[List.map_cons,Ey,Ey];by_cases h1:x<y
   ·rw[if_pos zO,if_pos h1];rfl
   rw[if_neg zO,if_neg h1];by_cases h2:x=y
   ·rw[if_pos zO,if_pos h2];rfl
   rw[if_neg zO,if_neg h2,aq6 x l];rfl
theorem aAj:∀l:List Nat,sset (l.map (· +1))=(sset l).map (· +1)
 | []=>rfl
 | x::l=>by
   show Ey (x+1) (sset (l.map (· +1)))=(Ey x (sset l)).map (· +1);rw[aAj l,aq6]
def aTY:aT:=.mk 0 aqg aqg aqg [] []
def aaO(k:Int)(p:aJ):aJ:=.mk k 1 1 0 aTY 0 [p]
section
variable {k:Int} {p:aJ} {elems:List (List Nm)}
theorem aFj:∀p:aJ,dC p<=1000
 | .mk k mn mx el c pr args=>by
   unfold dC;omega
theorem ara(hk:k=3\/k=4):fD k=false:=by
 rcases hk with rfl | rfl<;>rfl
theorem awY(pl:List aU)(x:dR)(y:dR)(h:x.last=[]):dB pl x y=pl:=by
 unfold dB;rw[h];rfl
theorem aJV(pl:List aU)(i:Nat):tZ pl [] i=pl:=by
 unfold tZ;refine List.ext_getElem? λj=>?_;rw[List.getElem?_modify]
 cases hp:pl[j]? with
 | none=>rfl
 | some q=>
   by_cases e:i=j
   ·subst e;simp
   simp[e]
theorem aAo(pl:List aU)(x:dR):dB pl x oN=pl:=by
 unfold dB;generalize x.last=l
 induction l with
 | nil=>rfl
 | cons i l ih=>
   rw[List.foldl_cons];show List.foldl _ (tZ pl [] i) l=pl;rw[aJV];exact ih
theorem aJQ(x:dR):fG oN x=x:=by
 unfold fG oN;cases x;simp
theorem aFk(x:dR):fG x oN=x:=by
 unfold fG oN;cases x;simp
theorem aJR(hk:k=3\/k=4)(pl:List aU):kL (aaO k p) 0 pl=fV p 1 pl:=by
 unfold aaO;rw[kL,if_neg (by rw[ara hk];simp),pI,pI];show (if _ then _ else _)=_
 rcases hk with rfl | rfl
 ·rw[if_pos zP];rw[awY _ _ _ rfl];unfold fG fV;simp
 rw[if_neg zP];unfold fV;simp[pI]
theorem akS(hk:k=3\/k=4)(h0:0<=dC p):dC (aaO k p)=dC p:=by
 have h1:=aFj p;unfold aaO;rw[dC,ara hk,oh,oh,if_neg zP,if_neg zO];have e1:wrap64 (0+dC p)=dC p:=(by unfold wrap64;omega);rw[e1];have e2:wrap64 (dC p*1)=dC p:=(by unfold wrap64;omega);rw[e2];omega
theorem aFl(hk:k=3\/k=4)(h0:0<=dC p)(pl:List aU):fV (aaO k p) 0 pl=fV p 1 pl:=by
 by_cases hz:dC p=0
 ·unfold fV rH;rw[akS hk h0,if_pos hz,if_pos hz]
 have:fV (aaO k p) 0 pl=rH (kL (aaO k p) 0) 1 1 (dC (aaO k p)) pl:=rfl;rw[this];unfold rH;rw[akS hk h0,if_neg hz];show (if (1:Int)= -1 then _ else _)=_;rw[if_neg zO];show (dB (mY _ 0 (kY _ 1 pl oN).1 oN).1 (kY _ 1 pl oN).2 (mY _ 0 (kY _ 1 pl oN).1 oN).2,fG (kY _ 1 pl oN).2 (mY _ 0 (kY _ 1 pl oN).1 oN).2)=_;simp only[kY,mY,aJR hk];rw[aAo,aFk,awY _ oN _ rfl,aJQ]
theorem aFc(hk:k=3\/k=4)(h5:p.kind≠5)(h0:0<=dC p):ShM (eU elems p) (eU elems (aaO k p)):=by
 have lq:(aaO k p).kind≠5:=by
  show k≠5;omega
 have ht:fV (aaO k p) 0 []=(shP 1 (fV p 0 []).1,(fV p 0 []).2):=by
  rw[aFl hk h0];exact aMy 1 p 0 []
 unfold eU;rw[if_neg h5,if_neg lq,ht];exact⟨rfl,⟨rfl,rfl⟩,rfl,rfl,rfl,rfl⟩
theorem apX(hk:k=3\/k=4):mZ elems [aaO k p]=mZ elems [p]:=by
 have h2:¬k=2:=zO;unfold mZ adC adD aaO;simp only[DD,DI,DC,DF,if_neg h2,List.nil_append,List.append_nil]
mutual
theorem aw9:∀(p:aJ) (num:Nat),aaj p (num+1)=(aaj p num).map λx=>(x.1+1,x.2)
 | .mk k mn mx el c pr args,num=>by
   rw[aaj,aaj]
   split
   ·rfl
   exact atc args (num+1)
theorem atc:∀(l:List aJ) (num:Nat),aaH l (num+1)=(aaH l num).map λx=>(x.1+1,x.2)
 | [],_=>rfl
 | p::l,num=>by
   rw[aaH,aaH,List.map_append,aw9 p num,show num+1+dh p=num+dh p+1 by omega,atc l]
end
theorem ap9(hk:k=3\/k=4):aaj (aaO k p) 0=(aaj p 0).map λx=>(x.1+1,x.2):=by
 unfold aaO;rw[aaj,if_neg (by rw[ara hk];simp),aaH,aaH,List.append_nil];exact aw9 p 0
theorem aPm(L:List (Nat×aJ))(i:Nat):lkP (L.map λx=>(x.1+1,x.2)) (i+1)=lkP L i:=by
 induction L with
 | nil=>rfl
 | cons x L ih=>
   rw[List.map_cons,akG,akG,ih];by_cases e:x.1=i
   ·rw[if_pos e,if_pos (by show x.1+1=i+1;omega)]
   rw[if_neg e,if_neg (by show ¬x.1+1=i+1;omega)]
theorem aJW(L:List (Nat×aJ))(l:List Nat)(n:Nm):ack elems (L.map λx=>(x.1+1,x.2)) (l.map (· +1)) n=(ack elems L l n).map (· +1):=by
 unfold ack;rw[List.filter_map]
 congr 1
 refine List.filter_congr λi _=>?_;show apU elems (L.map λx=>(x.1+1,x.2)) n (i+1)=apU elems L n i;unfold apU;rw[aPm]
theorem axa(L:List (Nat×aJ))(a:zZ)(l:List Nat):∀xs:List Nat,acr elems (L.map λx=>(x.1+1,x.2)) a (l.map (· +1)) xs=(acr elems L a l xs).map λc=>(c.1+1,c.2.1+1,c.2.2)
 | []=>rfl
 | x::xs=>by
   rw[acr,acr,aJW,axa L a l xs]
   cases hb:ack elems L l (iJ a x) with
   | nil=>rfl
   | cons i r=>
     cases r with
     | nil=>rfl
     | cons j r=>rfl
theorem aJS(hk:k=3\/k=4)(h5:p.kind≠5)(h0:0<=dC p)(hc:kN elems p=0)(hw:kN elems (aaO k p)=0)(w:List Nm):TG (aaO k p) elems w=((TG p elems w).1.map (· +1),(TG p elems w).2.1,(TG p elems w).2.2):=by
 have hs:=aFc (elems:=elems) hk h5 h0
 have hw':TG (aaO k p) elems w=(if 300<w.length then ([],false,3) else if w.any oZ=true then ([],false,2) else if EX (w.foldl (lZ (eU elems p)) [0]) (aao (eU elems p))=false then ([],false,4) else
  (sset ((w.foldl (lZ (eU elems p)) [0]).flatMap (NF (eU elems (aaO k p)) (aao (eU elems p)))),qA (eU elems p) (w.foldl (lZ (eU elems p)) [0]),0)):=by
  unfold TG;rw[hw,if_neg zP,hs.aPS,hs.live,hs.end_]
 have hp':TG p elems w=(if 300<w.length then ([],false,3) else if w.any oZ=true then ([],false,2) else if EX (w.foldl (lZ (eU elems p)) [0]) (aao (eU elems p))=false then ([],false,4) else
  (sset ((w.foldl (lZ (eU elems p)) [0]).flatMap (NF (eU elems p) (aao (eU elems p)))),qA (eU elems p) (w.foldl (lZ (eU elems p)) [0]),0)):=by
  unfold TG;rw[hc,if_neg zP]
 rw[hw',hp'];clear hw' hp';by_cases h1:300<w.length
 ·rw[if_pos h1,if_pos h1];rfl
 rw[if_neg h1,if_neg h1];by_cases h2:w.any oZ=true
 ·rw[if_pos h2,if_pos h2];rfl
 rw[if_neg h2,if_neg h2];by_cases h3:EX (w.foldl (lZ (eU elems p)) [0]) (aao (eU elems p))=false
 ·rw[if_pos h3,if_pos h3];rfl
 rw[if_neg h3,if_neg h3]
 have e:(w.foldl (lZ (eU elems p)) [0]).flatMap (NF (eU elems (aaO k p)) (aao (eU elems p)))=((w.foldl (lZ (eU elems p)) [0]).flatMap (NF (eU elems p) (aao (eU elems p)))).map (· +1):=by
  rw[List.map_flatMap]
  congr 1
  funext s;exact hs.nxt _ s
 rw[e,aAj]
theorem aJT(hk:k=3\/k=4)(h5:p.kind≠5)(h0:0<=dC p)(hc:kN elems p=0)(hw:kN elems (aaO k p)=0):DJ (aaO k p) elems=DJ p elems:=by
 have hs:=aFc (elems:=elems) hk h5 h0
 have hb:xX (eU elems (aaO k p)) (mZ elems [aaO k p])=xX (eU elems p) (mZ elems [p]):=by
  funext set x;unfold xX;rw[apX hk,hs.aPS]
 unfold DJ;rw[hc,hw,if_neg zP,if_neg zP,hb,apX hk,hs.live,hs.end_]
structure UqS (u v:UqR):Prop where
 is:v.is=u.is
 e:v.e=u.e
 cl:u.e=0->u.is=false->v.a=u.a+1/\v.b=u.b+1/\v.name=u.name
theorem arW(hk:k=3\/k=4)(h5:p.kind≠5)(h0:0<=dC p)(hc:kN elems p=0)(hw:kN elems (aaO k p)=0)(a:zZ):∀ws:List (Nat×List Nm),UqS (gp p elems (aaj p 0) a ws) (gp (aaO k p) elems (aaj (aaO k p) 0) a ws)
 | []=>⟨rfl,rfl,λ_ h=>by cases h⟩
 | w::ws=>by
   rw[gp,gp,aJS hk h5 h0 hc hw];dsimp only;by_cases h1:(TG p elems w.2).2.2=4
   ·rw[if_pos h1,if_pos h1];exact arW hk h5 h0 hc hw a ws
   rw[if_neg h1,if_neg h1];by_cases h2:(TG p elems w.2).2.2≠0
   ·rw[if_pos h2,if_pos h2];exact⟨rfl,rfl,λh=>absurd h h2⟩
   rw[if_neg h2,if_neg h2,ap9 hk,axa]
   cases acr elems (aaj p 0) a (TG p elems w.2).1 (List.range a.size) with
   | some c=>exact⟨rfl,rfl,λ_ _=>⟨rfl,rfl,rfl⟩⟩
   | none=>
     have:=arW hk h5 h0 hc hw a ws;rw[ap9 hk] at this;exact this
theorem aS3(hk:k=3\/k=4)(h5:p.kind≠5)(h0:0<=dC p)(hc:kN elems p=0)(hw:kN elems (aaO k p)=0):UqS (aaV p elems) (aaV (aaO k p) elems):=by
 unfold aaV;rw[aJT hk h5 h0 hc hw]
 split
 ·rename_i h;exact⟨rfl,rfl,λh'=>absurd h' h⟩
 exact arW hk h5 h0 hc hw _ _
end
section
variable {p:aJ} {elems:List (List Nm)}
theorem aJX(hc:kN elems p=0){w:List Nm}(hw:w.any oZ=false):(TG p elems w).2.2=0\/(TG p elems w).2.2=3\/(TG p elems w).2.2=4:=by
 unfold TG;rw[hc,if_neg zP,hw]
 split
 ·exact .inr (.inl rfl)
 rw[if_neg zP]
 split
 ·exact .inr (.inr rfl)
 exact .inl rfl
theorem aFd{L:List (Nat×aJ)}{a:zZ}(hc:kN elems p=0):∀{ws:List (Nat×List Nm)},(∀w∈ws,w.2.any oZ=false)->(gp p elems L a ws).e=0\/(gp p elems L a ws).e=3
 | [],_=>.inl rfl
 | w::ws,h=>by
   have ih:=aFd (L:=L) (a:=a) hc (ws:=ws) λx hx=>h x (List.mem_cons_of_mem _ hx);rw[gp];by_cases h1:(TG p elems w.2).2.2=4
   ·rw[if_pos h1];exact ih
   rw[if_neg h1];by_cases h2:(TG p elems w.2).2.2≠0
   ·rw[if_pos h2];right;show (TG p elems w.2).2.2=3;have:=aJX hc (h w (List.mem_cons_self ..));omega
   rw[if_neg h2]
   cases acr elems L a (TG p elems w.2).1 (List.range a.size) with
   | some c=>exact .inl rfl
   | none=>exact ih
theorem aJU{st:Nat->Nm}{s x:Nat}{tt:Int}{d:KG}(h:∀l∈d.word,∀n∈l,∃y,n=st y):∀l∈(azJ st s d x tt).word,∀n∈l,∃y,n=st y:=by
 unfold azJ
 split
 ·intro l hl n hn
  rcases List.mem_or_eq_of_mem_set hl with h1 | h1
  ·exact h l h1 n hn
  subst h1
  rcases z12.1 hn with h2 | h2
  ·cases hw:d.word[s]? with
   | none=>rw[hw] at h2;cases h2
   | some l'=>
     rw[hw] at h2;exact h l' (SK hw) n h2
  exact⟨x,og.1 h2⟩
 exact h
theorem azW{st:Nat->Nm}{s:Nat}:∀{r:List Int} {x:Nat} {d:KG},(∀l∈d.word,∀n∈l,∃y,n=st y)->∀l∈(aFf st s r x d).word,∀n∈l,∃y,n=st y
 | [],_,_,h=>h
 | _::r,_,_,h=>azW (r:=r) (aJU h)
theorem axe{a:Aut}{st:Nat->Nm}:∀{f k:Nat} {d:KG},(∀l∈d.word,∀n∈l,∃y,n=st y)->∀w∈as5 a st f k d,∀n∈w.2,∃y,n=st y
 | 0,_,_,_,w,hw=>by cases hw
 | f+1,k,d,h,w,hw=>by
   rw[as5] at hw
   cases hk:d.list[k]? with
   | none=>rw[hk] at hw;cases hw
   | some s=>
     rw[hk] at hw
     rcases TT.1 hw with rfl | hw
     ·intro n hn
      cases hs:d.word[s]? with
      | none=>simp[hs] at hn
      | some l=>
        simp only[hs,Option.getD_some] at hn;exact h l (SK hs) n hn
     exact axe (azW h) w hw
theorem aJY(a:Aut):∀w∈azV a,∀n∈w.2,∃y,n=iJ a.alp y:=by
 refine axe ?_;intro l hl n hn
 have:l=[]:=by
  unfold aFa at hl;exact(List.mem_replicate.1 hl).2
 subst this;cases hn
theorem aFm(hc:kN elems p=0):aJr (mZ elems [p]):=by
 obtain⟨q1,q2⟩:=VW hc;have iY:mF [p]<=4000:=(by rw[mF,mF];omega);obtain⟨q3,q4⟩:=Yf (elems:=elems) (ps:=[p]) (N:=10000) zO;exact aMw (ps:=[p]) (λq hq=>by rw[og.1 hq];exact hc) (J5 hc).2.1 zO zO
theorem aJZ(hm:(DJ p elems).2=0):(DJ p elems).1.alp=mZ elems [p]:=by
 obtain⟨-,sets,rows,-,h⟩:=aza hm;rw[h];rfl
theorem aAp(hm:(DJ p elems).2=0):∀w∈azV (DJ p elems).1,w.2.any oZ=false:=by
 intro w hw;have hv:=aFm (aza hm).1;rw[List.any_eq_false];intro n hn;obtain⟨y,rfl⟩:=aJY _ w hw n hn;rw[aJZ hm,auM,aJt hv];simp
theorem aJ0(hc:kN elems p=0\/kN elems p=3):(DJ p elems).2=0\/(DJ p elems).2=3:=by
 unfold DJ
 rcases hc with hc | hc
 ·rw[if_neg (by rw[hc];simp)]
  split
  ·exact .inr rfl
  exact .inl rfl
 rw[if_pos (by rw[hc];simp)];exact .inr hc
theorem aS5(hc:kN elems p=0\/kN elems p=3):(aaV p elems).e=0\/(aaV p elems).e=3:=by
 unfold aaV;by_cases hm:(DJ p elems).2≠0
 ·rw[if_pos hm];right;show (DJ p elems).2=3;have:=aJ0 hc;omega
 rw[if_neg hm];exact aFd (aza (Decidable.of_not_not hm)).1 (aAp (Decidable.of_not_not hm))
theorem aJ1{n:Int}(h:bT n true p=true)(h5:p.kind≠5):bT n false p=true:=by
 obtain⟨k,mn,mx,el,c,pr,args⟩:=p;have hk:k≠5:=h5;rw[bT] at h ⊢;rw[if_neg hk] at h ⊢;exact h
theorem aS6{k:Int}(hk:k=3\/k=4)(h5:p.kind≠5)(h0:0<=dC p)(hc:kN elems p=0):kN elems (aaO k p)=0\/kN elems (aaO k p)=3:=by
 obtain⟨c1,c2,-,c4,c5,c6⟩:=J5 hc
 have hf:bT elems.length true (aaO k p)=true:=by
  unfold aaO
  have he:jZ elems.length [p]=true:=by
   rw[jZ,jZ,c4,aJ1 c5 h5];rfl
  have hz:qm aTY=true:=zS2
  rcases hk with rfl | rfl
  ·rw[bT,he,hz];rfl
  rw[bT,he,hz];rfl
 unfold kN;rw[if_neg (by rw[c2];simp;omega)]
 split
 ·exact .inr rfl
 rw[if_neg (by rw[hf];show ¬(bU 1 1&&true)=false;decide),akS hk h0,if_neg (by rintro⟨-,h⟩;have:=c6 h5;omega)];exact .inl rfl
def alO(elems:List (List Nm)):List (Nat×aJ)->List Nm->Bool
 | [],_=>true
 | x::L,seen=>if x.2.kind=2 then false else ((elemAt elems x.2.el).all λn=>seen.all λs=>!eqN s n)&&alO elems L (seen++elemAt elems x.2.el)
theorem aLv{L:List (Nat×aJ)}{seen:List Nm}(hk:∀x∈L,fD x.2.kind=true)(h:alO elems L seen=true){x:Nat×aJ}(hx:x∈L){n:Nm}(ha:Gf elems x.2 n=true):n ∉ seen:=by
 induction L generalizing seen with
 | nil=>cases hx
 | cons y L ih=>
   rw[alO] at h;by_cases h2:y.2.kind=2
   ·rw[if_pos h2] at h;cases h
   rw[if_neg h2,z7] at h
   rcases TT.1 hx with rfl | hx
   ·have h1:x.2.kind=1:=by
     have:=(adT _).1 (hk x (List.mem_cons_self ..));omega
    unfold Gf at ha;rw[if_pos h1,List.any_eq_true] at ha;obtain⟨y,hy,he⟩:=ha;obtain rfl:=(jM _ _).1 he;intro hs;have h3:=List.all_eq_true.1 (List.all_eq_true.1 h.1 _ hy) _ hs;rw[(jM _ _).2 rfl] at h3;cases h3
   have:=ih (λz hz=>hk z (List.mem_cons_of_mem _ hz)) h.2 hx;exact λhs=>this (z12.2 (.inl hs))
theorem aLw{L:List (Nat×aJ)}{seen:List Nm}(hk:∀x∈L,fD x.2.kind=true)(h:alO elems L seen=true)(n:Nm):∀x∈L,∀y∈L,x≠y->Gf elems x.2 n=true->Gf elems y.2 n=true->False:=by
 induction L generalizing seen with
 | nil=>intro x hx;cases hx
 | cons z L ih=>
   have dm:∀x∈L,fD x.2.kind=true:=λx hx=>hk x (List.mem_cons_of_mem _ hx);rw[alO] at h;by_cases h2:z.2.kind=2
   ·rw[if_pos h2] at h;cases h
   rw[if_neg h2,z7] at h
   have hz:∀y∈L,Gf elems z.2 n=true->Gf elems y.2 n=true->False:=λy hy h3 h4=>by
    have h5:=aLv dm h.2 hy h4
    have h1:z.2.kind=1:=by
     have:=(adT _).1 (hk z (List.mem_cons_self ..));omega
    unfold Gf at h3;rw[if_pos h1,List.any_eq_true] at h3;obtain⟨m,hm,he⟩:=h3;obtain rfl:=(jM _ _).1 he;exact h5 (z12.2 (.inr hm))
   intro x hx y hy dD h3 h4
   rcases TT.1 hx with Cb | Cb
   ·rcases TT.1 hy with AQ | AQ
    ·exact dD (Cb.trans AQ.symm)
    exact hz y AQ (Cb ▸ h3) h4
   rcases TT.1 hy with AQ | AQ
   ·exact hz x Cb (AQ ▸ h4) h3
   exact ih dm h.2 x Cb y AQ dD h3 h4
theorem azX{L:List (Nat×aJ)}{n:Nm}{i:Nat}(h:apU elems L n i=true):∃q,(i,q)∈L/\Gf elems q n=true:=by
 unfold apU at h
 cases hk:lkP L i with
 | none=>rw[hk] at h;cases h
 | some q=>rw[hk] at h;exact⟨q,aRA hk,h⟩
theorem aLx{L:List (Nat×aJ)}(hk:∀x∈L,fD x.2.kind=true)(h:alO elems L []=true){l:List Nat}(hl:l.Pairwise (· < ·))(n:Nm){i j:Nat}{r:List Nat}:ack elems L l n≠i::j::r:=λhb=>by
 have hp:(ack elems L l n).Pairwise (· < ·):=hl.sublist List.filter_sublist;have hi:i∈ack elems L l n:=(by rw[hb];simp);have hj:j∈ack elems L l n:=(by rw[hb];simp);rw[hb,List.pairwise_cons] at hp;have Fz:i<j:=hp.1 j zP;unfold ack at hi hj;obtain⟨q,h1,h2⟩:=azX (List.mem_filter.1 hi).2;obtain⟨q',h3,h4⟩:=azX (List.mem_filter.1 hj).2;exact aLw hk h n _ h1 _ h3 (λe=>by have:=(Prod.mk.inj e).1;omega) h2 h4
theorem aJ2(w:List Nm):(TG p elems w).1.Pairwise (· < ·):=by
 unfold TG
 split
 ·exact .nil
 split
 ·exact .nil
 split
 ·exact .nil
 split
 ·exact .nil
 exact qW _
theorem az0{L:List (Nat×aJ)}{a:zZ}(hk:∀x∈L,fD x.2.kind=true)(h:alO elems L []=true){l:List Nat}(hl:l.Pairwise (· < ·)):∀xs:List Nat,acr elems L a l xs=none
 | []=>rfl
 | x::xs=>by
   rw[acr]
   split
   ·rename_i i j r hb;exact absurd hb (aLx hk h hl _)
   exact az0 hk h hl xs
theorem ap0{L:List (Nat×aJ)}{a:zZ}(hk:∀x∈L,fD x.2.kind=true)(h:alO elems L []=true):∀ws:List (Nat×List Nm),(gp p elems L a ws).e=0->(gp p elems L a ws).is=true
 | [],_=>rfl
 | w::ws,he=>by
   rw[gp] at he ⊢;by_cases h1:(TG p elems w.2).2.2=4
   ·rw[if_pos h1] at he ⊢;exact ap0 hk h ws he
   rw[if_neg h1] at he ⊢;by_cases h2:(TG p elems w.2).2.2≠0
   ·rw[if_pos h2] at he;exact absurd he h2
   rw[if_neg h2,az0 hk h (aJ2 _)] at he ⊢;exact ap0 hk h ws he
theorem aPo(hc:kN elems p=0)(h:alO elems (aaj p 0) []=true)(he:(aaV p elems).e=0):(aaV p elems).is=true:=by
 obtain⟨-,-,-,-,c5,-⟩:=J5 hc;unfold aaV at he ⊢;by_cases hm:(DJ p elems).2≠0
 ·rw[if_pos hm] at he;exact absurd he hm
 rw[if_neg hm] at he ⊢;exact ap0 (λx hx=>(afK _ p true 0 c5 x hx).1.1) h _ he
end
