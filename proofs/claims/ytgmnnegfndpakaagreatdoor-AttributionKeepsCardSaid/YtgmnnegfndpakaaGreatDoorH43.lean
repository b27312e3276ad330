import Derived.Test.YtgmnnegfndpakaaGreatDoorH30
import Derived.Test.YtgmnnegfndpakaaGreatDoorH31
set_option maxHeartbeats 20000000
set_option maxRecDepth 100000
namespace Go.Proofs.YtgmnnegfndpakaaGreatDoor
open Go.RowKit
theorem aY.hi{α:Type}{w:World}{F:Nat->Prop}{sz:Nat}{cells:α->List Value}{l:List α}{A:Option Addr}{n:Nat}(h:aY w F sz cells l A n){i:Nat}(hi:i<=n):aY w F sz cells (l.take i) A i:=by
 refine⟨by rw[List.length_take,<-h.1];omega,λhp=>?_⟩;obtain⟨b,off,h1,h2,h3⟩:=h.2 (by rw[<-h.1];rw[List.length_take,<-h.1] at hp;omega)
 exact⟨b,off,h1,h2,λj x hx=>by
  rw[List.getElem?_take] at hx
  split at hx
  ·exact h3 j x hx
  cases hx⟩
theorem aY.keepW{α:Type}{w w':World}{sz:Nat}{cells:α->List Value}{l:List α}{A:Option Addr}{n:Nat}(h:aY w (· <w.heap.size) sz cells l A n)(hb:Bw w w'):aY w' (· <w'.heap.size) sz cells l A n:=(h.below hb).imp λb h=>by have:=hb.size;omega
mutual
def aaj:aJ->Nat->List (Nat×aJ)
 | .mk k mn mx el c pr args,num=>if fD k=true then [(num,.mk k mn mx el c pr args)] else aaH args (num+1)
def aaH:List aJ->Nat->List (Nat×aJ)
 | [],_=>[]
 | p::l,num=>aaj p num++aaH l (num+dh p)
end
def ab8(pl:List aU):List (Nat×aJ):=pl.map λq=>(q.num,q.leaf)
theorem azS(pl:List aU)(f:List Nat)(i:Nat):ab8 (tZ pl f i)=ab8 pl:=by
 unfold ab8 tZ;apply List.ext_getElem?;intro k;rw[z17,z17,List.getElem?_modify]
 cases pl[k]? with
 | none=>simp
 | some q=>
   by_cases h:i=k<;>simp[h]
theorem ak9(f:List Nat):∀(l:List Nat) (pl:List aU),ab8 (l.foldl (λpl i=>tZ pl f i) pl)=ab8 pl
 | [],_=>rfl
 | i::l,pl=>by rw[List.foldl_cons,ak9 f l,azS]
theorem acB(pl:List aU)(x y:dR):ab8 (dB pl x y)=ab8 pl:=ak9 _ _ _
def ajD(once:List aU->List aU×dR)(L:List (Nat×aJ)):Prop:=∀pl,∀l∈ab8 (once pl).1,l∈ab8 pl\/l∈L
theorem agH{once:List aU->List aU×dR}{L:List (Nat×aJ)}(h:ajD once L):∀(n:Nat) (pl:List aU) (out:dR),∀l∈ab8 (kY once n pl out).1,l∈ab8 pl\/l∈L
 | 0,_,_,_,hl=>.inl hl
 | n+1,pl,out,l,hl=>by
   rw[kY] at hl
   rcases agH h n _ _ l hl with h1 | h1
   ·rw[acB] at h1;exact h pl l h1
   exact .inr h1
theorem aqN{once:List aU->List aU×dR}{L:List (Nat×aJ)}(h:ajD once L):∀(n:Nat) (pl:List aU) (out:dR),∀l∈ab8 (mY once n pl out).1,l∈ab8 pl\/l∈L
 | 0,_,_,_,hl=>.inl hl
 | n+1,pl,out,l,hl=>by
   rw[mY] at hl
   rcases aqN h n _ _ l hl with h1 | h1
   ·rw[acB] at h1;exact h pl l h1
   exact .inr h1
theorem ajE{once:List aU->List aU×dR}{L:List (Nat×aJ)}(h:ajD once L)(mn mx z:Int):ajD (rH once mn mx z) L:=λpl l hl=>by
 unfold rH at hl
 split at hl
 ·exact .inl hl
 dsimp only at hl
 split at hl
 ·rw[acB,acB] at hl
  rcases h _ l hl with h1 | h1
  ·exact agH h _ _ _ l h1
  exact .inr h1
 rw[acB] at hl
 rcases aqN h _ _ _ l hl with h1 | h1
 ·exact agH h _ _ _ l h1
 exact .inr h1
mutual
theorem ala:∀(p:aJ) (num:Nat),ajD (kL p num) (aaj p num)
 | .mk k mn mx el c pr args,num,pl,l,hl=>by
   rw[kL] at hl;rw[aaj];by_cases h:fD k=true
   ·rw[if_pos h] at hl;rw[if_pos h];unfold ab8 at hl ⊢;rw[List.map_append,z12] at hl;simpa using hl
   rw[if_neg h] at hl;rw[if_neg h];exact afZ (decide (k=3)) args (num+1) pl _ l hl
theorem afZ:∀(sq:Bool) (l:List aJ) (num:Nat) (pl:List aU) (out:dR),∀x∈ab8 (pI sq l num pl out).1,x∈ab8 pl\/x∈aaH l num
 | _,[],_,_,_,x,hx=>.inl hx
 | sq,p::l,num,pl,out,x,hx=>by
   have ht:=ajE (ala p num) p.mn p.mx (dC p) pl;rw[aaH,z12];rw[pI] at hx
   cases sq with
   | true=>
     rw[if_pos rfl] at hx
     rcases afZ true l _ _ _ x hx with h1 | h1
     ·rw[acB] at h1
      rcases ht x h1 with h2 | h2
      ·exact .inl h2
      exact .inr (.inl h2)
     exact .inr (.inr h1)
   | false=>
     rw[if_neg zP] at hx
     rcases afZ false l _ _ _ x hx with h1 | h1
     ·rcases ht x h1 with h2 | h2
      ·exact .inl h2
      exact .inr (.inl h2)
     exact .inr (.inr h1)
end
theorem ajF:∀(l:List aJ) (s i unit rest:Nat) (x:Stp),x∈qH l s i unit rest->∃j,l[j]?=some x.leaf/\x.num=i+j+1
 | [],_,_,_,_,x,h=>by simp[qH] at h
 | p::l,s,i,unit,rest,x,h=>by
   rw[qH,z12] at h
   rcases h with h | h
   ·split at h
    ·rw[og] at h;subst h;exact⟨0,rfl,rfl⟩
    simp at h
   obtain⟨j,h1,h2⟩:=ajF l s (i+1) _ _ x h;exact⟨j+1,h1,zO⟩
theorem af0:∀(l:List aJ) (num:Nat),(∀p∈l,fD p.kind=true/\p.args=[])->∀j p,l[j]?=some p->(num+j,p)∈aaH l num
 | [],_,_,j,p,h=>by simp at h
 | q::l,num,hl,j,p,h=>by
   have hq:=hl q zP;rw[aaH,z12]
   have hn:dh q=1:=by
    obtain⟨k,mn,mx,el,c,pr,args⟩:=q;obtain rfl:args=[]:=hq.2;rw[dh,dZ]
   cases j with
   | zero=>
     obtain rfl:q=p:=(by simpa using h);left;obtain⟨k,mn,mx,el,c,pr,args⟩:=q;rw[aaj,if_pos (show fD k=true from hq.1)];simp
   | succ j=>
     right;rw[hn];have:=af0 l (num+1) (λp hp=>hl p (by simp[hp])) j p (by simpa using h);rw[show num+(j+1)=num+1+j by omega];exact this
