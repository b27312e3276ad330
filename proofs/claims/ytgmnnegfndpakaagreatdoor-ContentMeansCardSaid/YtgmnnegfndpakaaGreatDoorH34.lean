import Derived.Test.YtgmnnegfndpakaaGreatDoorH43
set_option maxHeartbeats 20000000
set_option maxRecDepth 100000
namespace Go.Proofs.YtgmnnegfndpakaaGreatDoor
open Go Go.RowKit
def adW(A:List Nm->Prop):Nat->List Nm->Prop
 | 0=>λw=>w=[]
 | n+1=>λw=>∃u v,w=u++v/\A u/\adW A n v
def aaw(A:List Nm->Prop)(mn mx:Int)(w:List Nm):Prop:=∃n:Nat,mn<=n/\(mx= -1\/(n:Int)<=mx)/\adW A n w
theorem akY{A:List Nm->Prop}(h:A []):∀n,adW A n []
 | 0=>rfl
 | n+1=>⟨[],[],rfl,h,akY h n⟩
theorem az2{A:List Nm->Prop}:∀{n:Nat},adW A n []->n=0\/A []
 | 0,_=>.inl rfl
 | n+1,⟨u,v,e,h,_⟩=>by
   obtain⟨rfl,rfl⟩:=List.append_eq_nil_iff.1 e.symm;exact .inr h
theorem ajA{A:List Nm->Prop}:∀{n:Nat} {w:List Nm},w≠[]->adW A n w->∃i k,0<i/\i<=w.length/\k<n/\A (w.take i)/\adW A k (w.drop i)
 | 0,_,hw,h=>absurd h hw
 | n+1,w,hw,⟨u,v,e,h1,h2⟩=>by
   cases u with
   | nil=>
     rw[List.nil_append] at e;subst e;obtain⟨i,k,a,b,c,d,f⟩:=ajA hw h2;exact⟨i,k,a,b,zO,d,f⟩
   | cons x u=>
     subst e;refine⟨(x::u).length,n,zP,zP,zO,?_,?_⟩
     ·rw[List.take_left];exact h1
     rw[List.drop_left];exact h2
theorem aeL{A:List Nm->Prop}{low high:Int}{w:List Nm}(h0:0<=low)(hh:high= -1\/low<=high):
 aaw A low high w↔(w=[]/\(low=0\/A w))\/(high≠0/\∃i,i<=w.length/\¬(i=0/\low=0)/\A (w.take i)/\aaw A (max (low - 1) 0) (max (high - 1) (-1)) (w.drop i)):=by
 constructor
 ·rintro⟨n,h1,h2,h3⟩;by_cases hw:w=[]
  ·subst hw
   rcases az2 h3 with rfl | h4
   ·exact .inl ⟨rfl,.inl zO⟩
   exact .inl ⟨rfl,.inr h4⟩
  cases n with
  | zero=>exact absurd h3 hw
  | succ n=>
    refine .inr ⟨zO,?_⟩;by_cases hl:low=0
    ·obtain⟨i,k,a,b,c,d,f⟩:=ajA hw h3;exact⟨i,b,zO,d,k,zO,zO,f⟩
    obtain⟨u,v,rfl,h4,h5⟩:=h3;refine⟨u.length,zP,zO,by rw[List.take_left];exact h4,n,zO,zO,by rw[List.drop_left];exact h5⟩
 rintro (⟨rfl,h⟩ | ⟨dD,i,hi,hz,h3,n,h4,h5,h6⟩)
 ·rcases h with rfl | h
  ·exact⟨0,zO,zO,rfl⟩
  exact⟨low.toNat,zO,zO,akY h _⟩
 exact⟨n+1,zO,zO,w.take i,w.drop i,(List.take_append_drop i w).symm,h3,h6⟩
def agA(acc:aJ->Nm->Bool):List LI->List Nm->Prop
 | [],[]=>True
 | l::W,n::w=>acc l.2 n=true/\agA acc W w
 | _,_=>False
theorem aeP{acc:aJ->Nm->Bool}:∀{U V:List LI} {w:List Nm},agA acc (U++V) w↔∃u v,w=u++v/\agA acc U u/\agA acc V v
 | [],V,w=>by
   constructor
   ·intro h;exact⟨[],w,rfl,trivial,h⟩
   rintro⟨u,v,rfl,h1,h2⟩
   cases u with
   | nil=>exact h2
   | cons x u=>exact h1.elim
 | l::U,V,w=>by
   constructor
   ·intro h
    cases w with
    | nil=>exact h.elim
    | cons n w=>
      obtain⟨u,v,rfl,h1,h2⟩:=aeP.1 h.2;exact⟨n::u,v,rfl,⟨h.1,h1⟩,h2⟩
   rintro⟨u,v,rfl,h1,h2⟩
   cases u with
   | nil=>exact h1.elim
   | cons n u=>exact⟨h1.1,aeP.2 ⟨u,v,rfl,h1.2,h2⟩⟩
def den(acc:aJ->Nm->Bool)(L:List LI->Prop)(w:List Nm):Prop:=∃W,L W/\agA acc W w
theorem atU{acc:aJ->Nm->Bool}{L M:List LI->Prop}{w:List Nm}:den acc (qO L M) w↔∃u v,w=u++v/\den acc L u/\den acc M v:=by
 constructor
 ·rintro⟨_,⟨U,V,rfl,h1,h2⟩,h3⟩;obtain⟨u,v,rfl,h4,h5⟩:=aeP.1 h3;exact⟨u,v,rfl,⟨U,h1,h4⟩,V,h2,h5⟩
 rintro⟨u,v,rfl,⟨U,h1,h2⟩,V,h3,h4⟩;exact⟨U++V,⟨U,V,rfl,h1,h3⟩,aeP.2 ⟨u,v,rfl,h2,h4⟩⟩
theorem atV{acc:aJ->Nm->Bool}{w:List Nm}:den acc (λW=>W=[]) w↔w=[]:=by
 constructor
 ·rintro⟨W,rfl,h⟩
  cases w with
  | nil=>rfl
  | cons n w=>exact h.elim
 rintro rfl;exact⟨[],rfl,trivial⟩
theorem den_pow{acc:aJ->Nm->Bool}{L:List LI->Prop}:∀{n:Nat} {w:List Nm},den acc (qP L n) w↔adW (den acc L) n w
 | 0,w=>atV
 | n+1,w=>by
   show den acc (qO L (qP L n)) w↔∃u v,w=u++v/\den acc L u/\adW (den acc L) n v;rw[atU];exact⟨λ⟨u,v,e,h1,h2⟩=>⟨u,v,e,h1,den_pow.1 h2⟩,λ⟨u,v,e,h1,h2⟩=>⟨u,v,e,h1,den_pow.2 h2⟩⟩
theorem ajL{acc:aJ->Nm->Bool}{L:List LI->Prop}{mn mx:Int}{w:List Nm}:den acc (Gg L mn mx) w↔aaw (den acc L) mn mx w:=by
 constructor
 ·rintro⟨W,⟨n,h1,h2,h3⟩,h4⟩;exact⟨n,h1,h2,den_pow.1 ⟨W,h3,h4⟩⟩
 rintro⟨n,h1,h2,h3⟩;obtain⟨W,h4,h5⟩:=den_pow.2 h3;exact⟨W,⟨n,h1,h2,h4⟩,h5⟩
theorem aEH{acc:aJ->Nm->Bool}{x:LI}{w:List Nm}:den acc (λW=>W=[x]) w↔∃n,w=[n]/\acc x.2 n=true:=by
 constructor
 ·rintro⟨W,rfl,h⟩
  match w,h with
  | [n],h=>exact⟨n,rfl,h.1⟩
  | _::_::_,h=>exact h.2.elim
 rintro⟨n,rfl,h⟩;exact⟨[x],rfl,h,trivial⟩
mutual
def aeQ(acc:aJ->Nm->Bool):aJ->List Nm->Prop
 | .mk k mn mx el c pr args=>λw=>if fD k=true then ∃n,w=[n]/\acc (.mk k mn mx el c pr args) n=true else if k=3 then afY acc args w else aqE acc args w
def afY(acc:aJ->Nm->Bool):List aJ->List Nm->Prop
 | []=>λw=>w=[]
 | p::l=>λw=>∃u v,w=u++v/\aaw (aeQ acc p) p.mn p.mx u/\afY acc l v
def aqE(acc:aJ->Nm->Bool):List aJ->List Nm->Prop
 | []=>λ_=>False
 | p::l=>λw=>aaw (aeQ acc p) p.mn p.mx w\/aqE acc l w
end
theorem adh{A B:List Nm->Prop}(h:∀w,A w↔B w):∀(n:Nat) (w:List Nm),adW A n w↔adW B n w
 | 0,_=>Iff.rfl
 | n+1,_=>⟨λ⟨u,v,e,h1,h2⟩=>⟨u,v,e,(h u).1 h1,(adh h n v).1 h2⟩,λ⟨u,v,e,h1,h2⟩=>⟨u,v,e,(h u).2 h1,(adh h n v).2 h2⟩⟩
theorem adi{A B:List Nm->Prop}(h:∀w,A w↔B w)(mn mx:Int)(w:List Nm):aaw A mn mx w↔aaw B mn mx w:=
 ⟨λ⟨n,h1,h2,h3⟩=>⟨n,h1,h2,(adh h n w).1 h3⟩,λ⟨n,h1,h2,h3⟩=>⟨n,h1,h2,(adh h n w).2 h3⟩⟩
mutual
theorem agC(acc:aJ->Nm->Bool):∀(p:aJ) (num:Nat) (w:List Nm),den acc (rW p num) w↔aeQ acc p w
 | .mk k mn mx el c pr args,num,w=>by
   rw[aeQ];dsimp only;by_cases h:fD k=true
   ·rw[if_pos h]
    have e:rW (.mk k mn mx el c pr args) num=λW=>W=[(num,.mk k mn mx el c pr args)]:=by
     funext W;rw[rW];exact if_pos h
    rw[e];exact aEH
   rw[if_neg h];by_cases h3:k=3
   ·rw[if_pos h3]
    have e:rW (.mk k mn mx el c pr args) num=NG args (num+1):=by
     funext W;rw[rW];exact(if_neg h).trans (if_pos h3)
    rw[e];exact aqF acc args (num+1) w
   rw[if_neg h3]
   have e:rW (.mk k mn mx el c pr args) num=JG args (num+1):=by
    funext W;rw[rW];exact(if_neg h).trans (if_neg h3)
   rw[e];exact aqH acc args (num+1) w
theorem aqF(acc:aJ->Nm->Bool):∀(l:List aJ) (num:Nat) (w:List Nm),den acc (NG l num) w↔afY acc l w
 | [],num,w=>by
   rw[afY];have e:NG [] num=λW=>W=[]:=(by funext W;rw[NG]);rw[e];exact atV
 | p::l,num,w=>by
   rw[afY];have e:NG (p::l) num=qO (Gg (rW p num) p.mn p.mx) (NG l (num+dh p)):=(by rw[NG]);rw[e,atU];have h1:∀u,den acc (Gg (rW p num) p.mn p.mx) u↔aaw (aeQ acc p) p.mn p.mx u:=λu=>ajL.trans (adi (agC acc p num) _ _ _);have h2:=aqF acc l (num+dh p);exact⟨λ⟨u,v,e,a,b⟩=>⟨u,v,e,(h1 u).1 a,(h2 v).1 b⟩,λ⟨u,v,e,a,b⟩=>⟨u,v,e,(h1 u).2 a,(h2 v).2 b⟩⟩
theorem aqH(acc:aJ->Nm->Bool):∀(l:List aJ) (num:Nat) (w:List Nm),den acc (JG l num) w↔aqE acc l w
 | [],num,w=>by
   rw[aqE];have e:JG [] num=λ_=>False:=(by funext W;rw[JG]);rw[e];exact⟨λ⟨W,h,_⟩=>h.elim,λh=>h.elim⟩
 | p::l,num,w=>by
   rw[aqE];have e:JG (p::l) num=λW=>Gg (rW p num) p.mn p.mx W\/JG l (num+dh p) W:=(by funext W;rw[JG]);rw[e];have h1:den acc (Gg (rW p num) p.mn p.mx) w↔aaw (aeQ acc p) p.mn p.mx w:=ajL.trans (adi (agC acc p num) _ _ _);have h2:=aqH acc l (num+dh p) w;constructor
   ·rintro⟨W,h | h,hm⟩
    ·exact .inl (h1.1 ⟨W,h,hm⟩)
    exact .inr (h2.1 ⟨W,h,hm⟩)
   rintro (h | h)
   ·obtain⟨W,a,b⟩:=h1.2 h;exact⟨W,.inl a,b⟩
   obtain⟨W,a,b⟩:=h2.2 h;exact⟨W,.inr a,b⟩
end
theorem ak7{m:eQ}(dW:m.all=[])(j:Nat):wH m (j+1)=true↔j∈m.last:=by
 unfold wH;rw[dW];simp
theorem agf{m:eQ}(dW:m.all=[]):∀(w:List Nm) (j:Nat),j<m.places.length->((∃t,Way m (j+1) w t/\wH m t=true)↔∃V,xk m.places m.last j V/\agA (Gf m.elems) V w)
 | [],j,hj=>by
   constructor
   ·rintro⟨t,h,hf⟩;cases h;exact⟨[],.stop ((ak7 dW j).1 hf),trivial⟩
   rintro⟨V,h,hm⟩
   cases h with
   | stop h=>exact⟨j+1,.nil _,(ak7 dW j).2 h⟩
   | go _ _ _=>exact hm.elim
 | n::w,j,hj=>by
   have xw:∀i,i∈ku m (j+1)↔yO m.places j i:=λi=>by
    unfold ku yO;rw[if_neg zO,Nat.add_sub_cancel,z6 hj];simp
   constructor
   ·rintro⟨t,h,hf⟩
    cases h with
    | cons hx ha h2=>
      obtain⟨i,q,hi,hq,rfl⟩:=(acy dW).1 hx;obtain⟨V,h3,h4⟩:=(agf dW w i (z4.1 hq).1).1 ⟨t,h2,hf⟩;exact⟨(q.num,q.leaf)::V,.go ((xw i).1 hi) (by unfold sG;rw[hq];rfl) h3,ha,h4⟩
   rintro⟨V,h,hm⟩
   cases h with
   | stop _=>exact hm.elim
   | @go _ i l V hf hl hs=>
     obtain⟨q,hq,rfl⟩:=Option.map_eq_some_iff.1 hl;obtain⟨t,h3,h4⟩:=(agf dW w i (z4.1 hq).1).2 ⟨V,hs,hm.2⟩;exact⟨t,.cons ((acy dW).2 ⟨i,q,(xw i).2 hf,hq,rfl⟩) hm.1 h3,h4⟩
theorem aEI{m:eQ}(dW:m.all=[])(w:List Nm):(∃t,Way m 0 w t/\wH m t=true)↔den (Gf m.elems) (Acc m.places ⟨m.first,m.last,m.empty⟩) w:=by
 have f0:wH m 0=true↔m.empty=true:=by
  unfold wH;rw[dW];simp
 cases w with
 | nil=>
   constructor
   ·rintro⟨t,h,hf⟩;cases h;exact⟨[],.inl ⟨rfl,f0.1 hf⟩,trivial⟩
   rintro⟨W,h,hm⟩
   rcases h with ⟨rfl,he⟩ | ⟨j,l,v,-,-,rfl,-⟩
   ·exact⟨0,.nil _,f0.2 he⟩
   exact hm.elim
 | cons n w=>
   constructor
   ·rintro⟨t,h,hf⟩
    cases h with
    | cons hx ha h2=>
      obtain⟨i,q,hi,hq,rfl⟩:=(acy dW).1 hx;obtain⟨V,h3,h4⟩:=(agf dW w i (z4.1 hq).1).1 ⟨t,h2,hf⟩;exact⟨(q.num,q.leaf)::V,.inr ⟨i,_,V,by simpa[ku] using hi,by unfold sG;rw[hq];rfl,rfl,h3⟩,ha,h4⟩
   rintro⟨W,h,hm⟩
   rcases h with ⟨rfl,he⟩ | ⟨i,l,V,hi,hl,rfl,hs⟩
   ·exact hm.elim
   obtain⟨q,hq,rfl⟩:=Option.map_eq_some_iff.1 hl;obtain⟨t,h3,h4⟩:=(agf dW w i (z4.1 hq).1).2 ⟨V,hs,hm.2⟩;exact⟨t,.cons ((acy dW).2 ⟨i,q,by simpa[ku] using hi,hq,rfl⟩) hm.1 h3,h4⟩
theorem azM{elems:List (List Nm)}{p:aJ}(hc:kN elems p=0)(hk:p.kind≠5)(hs:afX (eU elems p))(w:List Nm):(QK (eU elems p) (aao (eU elems p)) w 0 [0]).1=true↔aaw (aeQ (Gf elems) p) p.mn p.mx w:=by
 obtain⟨hg,hn,-⟩:=Vz hc hk;have hb:eU elems p=⟨elems,(fV p 0 []).1,(fV p 0 []).2.first,(fV p 0 []).2.last,(fV p 0 []).2.empty,[]⟩:=(by unfold eU;rw[if_neg hk]);rw[aqD (MH hc) (FW hc) hs w];rw[aEI (by rw[hb]) w];have hm:=xI hg hn 0 []
 have he:∀W,Acc (eU elems p).places ⟨(eU elems p).first,(eU elems p).last,(eU elems p).empty⟩ W↔Gg (rW p 0) p.mn p.mx W:=λW=>by
  rw[hb];exact hm.ok.acc W
 have lT:(eU elems p).elems=elems:=(by rw[hb]);rw[lT]
 have h1:den (Gf elems) (Acc (eU elems p).places ⟨(eU elems p).first,(eU elems p).last,(eU elems p).empty⟩) w↔den (Gf elems) (Gg (rW p 0) p.mn p.mx) w:=
  ⟨λ⟨W,a,b⟩=>⟨W,(he W).1 a,b⟩,λ⟨W,a,b⟩=>⟨W,(he W).2 a,b⟩⟩
 rw[h1,ajL];exact adi (agC (Gf elems) p 0) _ _ _
def adA(acc:aJ->Nm->Bool)(l:List aJ):List Nm->List Nat->Prop
 | [],got=>∀(i:Nat) (p:aJ) (g:Nat),l[i]?=some p->got[i]?=some g->p.mn<=(g:Int)/\(g:Int)<=p.mx
 | n::w,got=>∃(i:Nat) (p:aJ) (g:Nat),l[i]?=some p/\got[i]?=some g/\acc p n=true/\(g:Int)<p.mx/\adA acc l w (got.set i (g+1))
def aar:List Nat->Nat
 | []=>0
 | g::l=>g+4*aar l
theorem agI:∀(got:List Nat) (i g:Nat),got[i]?=some g->aar (got.set i (g+1))=aar got+4 ^ i
 | [],i,g,h=>by simp at h
 | x::got,0,g,h=>by
   obtain rfl:x=g:=(by simpa using h);show x+1+4*aar got=x+4*aar got+4 ^ 0;omega
 | x::got,i+1,g,h=>by
   have:=agI got i g (by simpa using h);show x+4*aar (got.set i (g+1))=x+4*aar got+4 ^ (i+1);rw[this,Nat.pow_succ];omega
theorem aeS:∀(l:List aJ) (got:List Nat) (s i unit:Nat) (x:Stp),got.length=l.length->(∀g∈got,g<=3)->
 (x∈qH l s i unit (aar got)↔∃(j:Nat) (p:aJ) (g:Nat),l[j]?=some p/\got[j]?=some g/\(g:Int)<p.mx/\x=⟨s+unit*4 ^ j,i+j+1,p⟩)
 | [],got,s,i,unit,x,hl,hg=>by
   rw[qH];simp
 | q::l,[],s,i,unit,x,hl,hg=>by simp at hl
 | q::l,y::got,s,i,unit,x,hl,hg=>by
   have hy:=hg y zP;rw[qH,z12,aar];have e1:(y+4*aar got) % 4=y:=(by omega);have e2:(y+4*aar got) / 4=aar got:=(by omega);rw[e1,e2,aeS l got s (i+1) (4*unit) x (by simpa using hl) (λg h=>hg g (by simp[h]))];constructor
   ·rintro (h | ⟨j,p,g,h1,h2,h3,rfl⟩)
    ·split at h
     ·rename_i hm;rw[og] at h;subst h;exact⟨0,q,y,rfl,rfl,hm,zP⟩
     simp at h
    refine⟨j+1,p,g,h1,h2,h3,?_⟩;rw[Nat.pow_succ]
    congr 1
    ·rw[Nat.mul_assoc 4 unit,Nat.mul_comm (4 ^ j) 4,<-Nat.mul_assoc unit 4,Nat.mul_comm unit 4,Nat.mul_assoc]
    omega
   rintro⟨j,p,g,h1,h2,h3,rfl⟩
   cases j with
   | zero=>
     obtain rfl:q=p:=(by simpa using h1);obtain rfl:y=g:=(by simpa using h2);rw[if_pos h3];exact .inl zP
   | succ j=>
     refine .inr ⟨j,p,g,by simpa using h1,by simpa using h2,h3,?_⟩;rw[Nat.pow_succ]
     congr 1
     ·rw[Nat.mul_assoc 4 unit,Nat.mul_comm (4 ^ j) 4,<-Nat.mul_assoc unit 4,Nat.mul_comm unit 4,Nat.mul_assoc]
     omega
theorem aqO:∀(l:List aJ) (got:List Nat),got.length=l.length->(∀g∈got,g<=3)->(II l (aar got)=true↔∀(i:Nat) (p:aJ) (g:Nat),l[i]?=some p->got[i]?=some g->p.mn<=(g:Int)/\(g:Int)<=p.mx)
 | [],got,hl,hg=>by
   rw[II];simp
 | q::l,[],hl,hg=>by simp at hl
 | q::l,y::got,hl,hg=>by
   have hy:=hg y zP;rw[II,aar];have e1:(y+4*aar got) % 4=y:=(by omega);have e2:(y+4*aar got) / 4=aar got:=(by omega);rw[e1,e2,z7,z7,z18,z18,aqO l got (by simpa using hl) (λg h=>hg g (by simp[h]))];constructor
   ·rintro⟨h1,h2⟩ i p g hp hgi
    cases i with
    | zero=>
      obtain rfl:q=p:=(by simpa using hp);obtain rfl:y=g:=(by simpa using hgi);exact h1
    | succ i=>exact h2 i p g (by simpa using hp) (by simpa using hgi)
   intro h;exact⟨h 0 q y rfl rfl,λi p g hp hgi=>h (i+1) p g (by simpa using hp) (by simpa using hgi)⟩
theorem ajN{m:eQ}(dD:m.all≠[])(l9:∀p∈m.all,p.mx<=3):∀(w:List Nm) (got:List Nat),got.length=m.all.length->(∀g∈got,g<=3)->((∃t,Way m (aar got) w t/\wH m t=true)↔adA (Gf m.elems) m.all w got)
 | [],got,hl,hg=>by
   have he:m.all.isEmpty=false:=by cases hq:m.all with
    | nil=>exact absurd hq dD
    | cons a l=>rfl
   have hf:∀t,wH m t=II m.all t:=λt=>(by unfold wH;rw[he];rfl);rw[adA,<-aqO m.all got hl hg];constructor
   ·rintro⟨t,h,h2⟩;cases h;rw[hf] at h2;exact h2
   intro h;exact⟨_,.nil _,by rw[hf];exact h⟩
 | n::w,got,hl,hg=>by
   have he:m.all.isEmpty=false:=by cases hq:m.all with
    | nil=>exact absurd hq dD
    | cons a l=>rfl
   have hs:gK m (aar got)=qH m.all (aar got) 0 1 (aar got):=(by unfold gK;rw[he];rfl)
   have hup:∀(j:Nat) (p:aJ) (g:Nat),m.all[j]?=some p->got[j]?=some g->(g:Int)<p.mx->(got.set j (g+1)).length=m.all.length/\∀g'∈got.set j (g+1),g'<=3:=λj p g h1 h2 h3=>by
    refine⟨by rw[List.length_set];exact hl,λg' FK=>?_⟩
    rcases List.mem_or_eq_of_mem_set FK with h4 | rfl
    ·exact hg g' h4
    have:=l9 p (z13 h1);omega
   rw[adA];constructor
   ·rintro⟨t,h,hf⟩
    cases h with
    | cons hx ha h2=>
      rw[hs] at hx;obtain⟨j,p,g,h3,h4,h5,rfl⟩:=(aeS m.all got _ 0 1 _ hl hg).1 hx;obtain⟨h6,h7⟩:=hup j p g h3 h4 h5;refine⟨j,p,g,h3,h4,ha,h5,(ajN dD l9 w _ h6 h7).1 ⟨t,?_,hf⟩⟩;rw[agI got j g h4];rw[Nat.one_mul] at h2;exact h2
   rintro⟨j,p,g,h3,h4,ha,h5,h⟩;obtain⟨h6,h7⟩:=hup j p g h3 h4 h5;obtain⟨t,h8,h9⟩:=(ajN dD l9 w _ h6 h7).2 h;rw[agI got j g h4] at h8;refine⟨t,.cons (x:=⟨aar got+1*4 ^ j,0+j+1,p⟩) ?_ ha (by rw[Nat.one_mul];exact h8),h9⟩;rw[hs];exact(aeS m.all got _ 0 1 _ hl hg).2 ⟨j,p,g,h3,h4,h5,rfl⟩
theorem alc:∀n:Nat,aar (List.replicate n 0)=0
 | 0=>rfl
 | n+1=>by rw[List.replicate_succ,aar,alc n]
def auc(acc:aJ->Nm->Bool)(p:aJ)(w:List Nm):Prop:=if p.kind=5 then adA acc p.args w (List.replicate p.args.length 0) else aeQ acc p w
theorem aAa{A:List Nm->Prop}{w:List Nm}:aaw A 1 1 w↔A w:=by
 constructor
 ·rintro⟨n,h1,h2,h3⟩;have:n=1:=(by omega);subst this;obtain⟨u,v,rfl,h4,h5⟩:=h3;have hv:v=[]:=h5;subst hv;rw[List.append_nil];exact h4
 intro h;exact⟨1,zO,.inr zO,w,[],(List.append_nil w).symm,h,rfl⟩
theorem azT{elems:List (List Nm)}{p:aJ}(hc:kN elems p=0)(w:List Nm):(QK (eU elems p) (aao (eU elems p)) w 0 [0]).1=true↔aaw (auc (Gf elems) p) p.mn p.mx w:=by
 by_cases hk:p.kind=5
 ·obtain⟨h1,h2,h3,h4,h5⟩:=af7 hc hk;have hb:eU elems p=⟨elems,[],[],[],false,p.args⟩:=(by unfold eU;rw[if_pos hk]);rw[aqD (MH hc) (FW hc) (azR _) w,h1,h2,aAa];unfold auc;rw[if_pos hk];have:=ajN (m:=eU elems p) (by rw[hb];exact h3) (by rw[hb];exact λq hq=>(h5 q hq).2.2.1) w (List.replicate p.args.length 0) (by rw[hb,List.length_replicate]) (λg hg=>by rw[List.eq_of_mem_replicate hg];omega);rw[alc] at this;rw[this,hb]
 rw[azM hc hk (azR _) w];refine adi (λw=>?_) _ _ _;unfold auc;rw[if_neg hk]
theorem ajQ{m:eQ}{lv:List Nat}:∀(w:List Nm) (i:Nat) (set:List Nat),i<=(QK m lv w i set).2/\(QK m lv w i set).2<=i+w.length/\((QK m lv w i set).1=true->(QK m lv w i set).2=i+w.length)
 | [],i,set=>⟨zR _,zR _,λ_=>rfl⟩
 | n::w,i,set=>by
   rw[QK]
   split
   ·have h:=ajQ (m:=m) (lv:=lv) w (i+1) (lZ m set n);rw[z9];exact⟨zO,zO,λe=>by have:=h.2.2 e;omega⟩
   exact⟨zR _,Nat.le_add_right _ _,λh=>by cases h⟩
theorem aMz{elems:List (List Nm)}{p:aJ}(hc:kN elems p=0){w:List Nm}(hl:w.length<=300)(hv:w.any oZ=false):
 ∃b k,Fp p elems w=(b,k,0)/\k<=w.length/\(b=true->k=w.length)/\(b=true↔aaw (auc (Gf elems) p) p.mn p.mx w):=by
 refine⟨(QK (eU elems p) (aao (eU elems p)) w 0 [0]).1,(QK (eU elems p) (aao (eU elems p)) w 0 [0]).2,?_,?_,?_,azT hc w⟩
 ·unfold Fp;rw[hc,if_neg zP,if_neg zO,hv,if_neg zP]
 ·have:=(ajQ (m:=eU elems p) (lv:=aao (eU elems p)) w 0 [0]).2.1;omega
 intro h;have:=(ajQ (m:=eU elems p) (lv:=aao (eU elems p)) w 0 [0]).2.2 h;omega
def adm(A:List Nm->Prop)(low high:Int)(w:List Nm)(i:Nat):Prop:=∃j,i<=j/\j<=w.length/\¬(j=0/\low=0)/\A (w.take j)/\aaw A (max (low - 1) 0) (max (high - 1) (-1)) (w.drop j)
theorem azU{A:List Nm->Prop}{low high:Int}{w:List Nm}:¬adm A low high w (w.length+1):=by
 rintro⟨j,h1,h2,-⟩;omega
theorem ajH{A:List Nm->Prop}{low high:Int}{w:List Nm}{i:Nat}(h:(i=0/\low=0)\/¬(A (w.take i)/\aaw A (max (low - 1) 0) (max (high - 1) (-1)) (w.drop i))):adm A low high w i↔adm A low high w (i+1):=by
 constructor
 ·rintro⟨j,h1,h2,h3,h4,h5⟩;refine⟨j,?_,h2,h3,h4,h5⟩
  rcases Nat.lt_or_ge i j with aN | jT
  ·exact aN
  obtain rfl:i=j:=(by omega)
  rcases h with h | h
  ·exact absurd h h3
  exact absurd ⟨h4,h5⟩ h
 rintro⟨j,h1,h2,h3,h4,h5⟩;exact⟨j,zO,h2,h3,h4,h5⟩
theorem aue{A:List Nm->Prop}{low high:Int}{w:List Nm}{i:Nat}(hi:i<=w.length)(h0:¬(i=0/\low=0))(h1:A (w.take i))(h2:aaw A (max (low - 1) 0) (max (high - 1) (-1)) (w.drop i)):adm A low high w i:=⟨i,zR _,hi,h0,h1,h2⟩
theorem aui{A:List Nm->Prop}{low high:Int}{w:List Nm}(h0:0<=low)(hh:high= -1\/low<=high)(hn:¬(w=[]/\(low=0\/A w)))(hz:high≠0):aaw A low high w↔adm A low high w 0:=by
 rw[aeL h0 hh];constructor
 ·rintro (h | ⟨-,i,h1,h2,h3,h4⟩)
  ·exact absurd h hn
  exact⟨i,Nat.zero_le _,h1,h2,h3,h4⟩
 rintro⟨i,-,h1,h2,h3,h4⟩;exact .inr ⟨hz,i,h1,h2,h3,h4⟩
theorem auk{A:List Nm->Prop}{low high:Int}{w:List Nm}(h0:0<=low)(hh:high= -1\/low<=high)(hn:¬(w=[]/\(low=0\/A w)))(hz:high=0):¬aaw A low high w:=by
 rw[aeL h0 hh];rintro (h | ⟨h,-⟩)
 ·exact hn h
 exact h hz
theorem aul{A:List Nm->Prop}{low high:Int}{w:List Nm}(h0:0<=low)(hh:high= -1\/low<=high)(hw:w=[])(h:low=0\/A w):aaw A low high w:=(aeL h0 hh).2 (.inl ⟨hw,h⟩)
def aum(A B:List Nm->Prop)(w:List Nm)(i:Nat):Prop:=∃j,i<=j/\j<=w.length/\A (w.take j)/\B (w.drop j)
theorem aMA{A B:List Nm->Prop}{w:List Nm}:¬aum A B w (w.length+1):=by
 rintro⟨j,h1,h2,-⟩;omega
theorem aMh{A B:List Nm->Prop}{w:List Nm}{i:Nat}(h:¬(A (w.take i)/\B (w.drop i))):aum A B w i↔aum A B w (i+1):=by
 constructor
 ·rintro⟨j,h1,h2,h4,h5⟩;refine⟨j,?_,h2,h4,h5⟩
  rcases Nat.lt_or_ge i j with aN | jT
  ·exact aN
  obtain rfl:i=j:=(by omega);exact absurd ⟨h4,h5⟩ h
 rintro⟨j,h1,h2,h4,h5⟩;exact⟨j,zO,h2,h4,h5⟩
theorem aMB(acc:aJ->Nm->Bool)(p:aJ)(l:List aJ)(w:List Nm):afY acc (p::l) w↔aum (aaw (aeQ acc p) p.mn p.mx) (afY acc l) w 0:=by
 rw[afY];constructor
 ·rintro⟨u,v,rfl,h1,h2⟩;exact⟨u.length,Nat.zero_le _,zP,by rw[List.take_left];exact h1,by rw[List.drop_left];exact h2⟩
 rintro⟨j,-,-,h1,h2⟩;exact⟨w.take j,w.drop j,(List.take_append_drop j w).symm,h1,h2⟩
def aup(acc:aJ->Nm->Bool)(l:List aJ)(n:Nm)(w:List Nm)(got:List Nat)(i:Nat):Prop:=∃(j:Nat) (p:aJ) (g:Nat),i<=j/\l[j]?=some p/\got[j]?=some g/\acc p n=true/\(g:Int)<p.mx/\adA acc l w (got.set j (g+1))
theorem aMC(acc:aJ->Nm->Bool)(l:List aJ)(n:Nm)(w:List Nm)(got:List Nat):adA acc l (n::w) got↔aup acc l n w got 0:=by
 rw[adA];constructor
 ·rintro⟨i,p,g,h⟩;exact⟨i,p,g,Nat.zero_le _,h⟩
 rintro⟨i,p,g,-,h⟩;exact⟨i,p,g,h⟩
theorem aMD{acc:aJ->Nm->Bool}{l:List aJ}{n:Nm}{w:List Nm}{got:List Nat}:¬aup acc l n w got l.length:=by
 rintro⟨j,p,g,h1,h2,-⟩;have:=(z4.1 h2).1;omega
theorem aMi{acc:aJ->Nm->Bool}{l:List aJ}{n:Nm}{w:List Nm}{got:List Nat}{i:Nat}{p:aJ}{g:Nat}(hp:l[i]?=some p)(hg:got[i]?=some g)(h:¬(acc p n=true/\(g:Int)<p.mx/\adA acc l w (got.set i (g+1)))):aup acc l n w got i↔aup acc l n w got (i+1):=by
 constructor
 ·rintro⟨j,p',g',h1,h2,h3,h4⟩;refine⟨j,p',g',?_,h2,h3,h4⟩
  rcases Nat.lt_or_ge i j with aN | jT
  ·exact aN
  obtain rfl:i=j:=(by omega);rw[hp] at h2;rw[hg] at h3;obtain rfl:=zI h2;obtain rfl:=zI h3;exact absurd h4 h
 rintro⟨j,p',g',h1,h2⟩;exact⟨j,p',g',zO,h2⟩
def auq(l:List aJ)(got:List Nat)(i:Nat):Prop:=∀(j:Nat) (p:aJ) (g:Nat),i<=j->l[j]?=some p->got[j]?=some g->p.mn<=(g:Int)/\(g:Int)<=p.mx
theorem aME{l:List aJ}{got:List Nat}:auq l got l.length:=λj p g h1 h2 _=>by
 have:=(z4.1 h2).1;omega
theorem aMj{l:List aJ}{got:List Nat}{i:Nat}{p:aJ}{g:Nat}(hp:l[i]?=some p)(hg:got[i]?=some g)(h:p.mn<=(g:Int)/\(g:Int)<=p.mx):auq l got i↔auq l got (i+1):=by
 constructor
 ·intro h1 j p' g' hj h2 h3;exact h1 j p' g' zO h2 h3
 intro h1 j p' g' hj h2 h3
 rcases Nat.lt_or_ge i j with aN | jT
 ·exact h1 j p' g' aN h2 h3
 obtain rfl:i=j:=(by omega);rw[hp] at h2;rw[hg] at h3;obtain rfl:=zI h2;obtain rfl:=zI h3;exact h
theorem aMF(acc:aJ->Nm->Bool)(l:List aJ)(got:List Nat):adA acc l [] got↔auq l got 0:=by
 rw[adA];exact⟨λh j p g _=>h j p g,λh j p g=>h j p g (Nat.zero_le _)⟩
end Go.Proofs.YtgmnnegfndpakaaGreatDoor
namespace Go.Proofs.YtgmnnegfndpakaaGreatDoor
open Go.RowKit
structure aqP (w:World) (p:aJ) (elems:List (List Nm)) (cs:List Value) (eA:Option Addr) (en:Nat):Prop where
 rep:au w (· <w.heap.size) (aZ p) cs
 cap:aem w p cs
 el:bM w (· <w.heap.size) 1 (elems.map nU) eA en
theorem aqP.below{w w':World}{p:aJ}{elems:List (List Nm)}{cs:List Value}{eA:Option Addr}{en:Nat}(h:aqP w p elems cs eA en)(hb:Bw w w'):aqP w' p elems cs eA en:=⟨h.rep.keepW hb,h.cap.keepW hb,h.el.keepW hb⟩
theorem aMk(A:List Nm->Prop)(p:aJ)(elems:List (List Nm))(cs:List Value)(eA:Option Addr)(en ec:Nat)
 (aPQ:∀(u:List Nm) (W:World) (alH:Option Addr) (un uc:Nat),aqP W p elems cs eA en->aY W (· <W.heap.size) 2 dK u alH un->un<6000000000000->un<=uc->
   Rt 142 #[.agg cs.toArray,.slice eA en ec,.slice alH un uc] W (.bool (aaU (A u)))):
 ∀(N:Nat) (M:Nat) (u:List Nm) (low high:Int) (w:World) (alH:Option Addr) (un uc:Nat),u.length=N->low.toNat=M->0<=low->low<=1000->(high= -1\/low<=high)->high<=1000->aqP w p elems cs eA en->aY w (· <w.heap.size) 2 dK u alH un->un<6000000000000->un<=uc->
  Rt 75 #[.agg cs.toArray,.slice eA en ec,.slice alH un uc,.int .i64 low,.int .i64 high] w (.bool (aaU (aaw A low high u))):=by
 intro N
 induction N using Nat.strongRecOn with
 | _ N ihN=>
   intro M
   induction M using Nat.strongRecOn with
   | _ M ihM=>
     intro u low high w alH un uc hN hM h0 aPR hh hh2 hL hu JL huc;obtain⟨k,mn,mx,el,ck,ns,nl,sp,A1,n1,c1,A2,n2,c2,pr,A0,n0,c0,rfl,-⟩:=aW hL.rep;obtain⟨w1,bI,S1,nC,ai⟩:=af w (.cells #[.int .i64 k,.int .i64 mn,.int .i64 mx,.int .i64 el,.int .i64 ck,.string ns,.string nl,.string sp,.slice A1 n1 c1,.slice A2 n2 c2,.int .i64 pr,.slice A0 n0 c0] 29);obtain⟨q0,q1,q2,q3,q4,q5,q6,q7,q8,q9,aF,aG⟩:=aj S1;obtain⟨R,hR⟩:=zF (aaU (aaw A low high u));rw[hR];have hlen:un=u.length:=hu.1;have HOH:=zH aPQ;have Po:=zH ihN;have HIM:=zH ihM;have HL:=zH hL;have HU:=zH hu;have aQ:=zH S1;have nK:=zH ai;have HR:=zH hR;have HN:=zH hN;have HM:=zH hM;have HH:=zH hh;have pR:=zH hlen;clear aPQ ihN ihM hL hu S1 ai hR hN hM hh hlen;have pF:Hid (∀W,Bw w W->Rt 142 #[.agg (o5 k mn mx el ck ns nl sp A1 n1 c1 A2 n2 c2 pr A0 n0 c0),.slice eA en ec,.slice alH un uc] W (.bool (aaU (A u)))):=zH λW hb=>HOH.out u W alH un uc (HL.out.below hb) (HU.out.keepW hb) JL huc;go_enter Tryz.func75,Tryz.ntmps75;go_upto_region 1 with fail;obtain⟨st,bZ⟩:=zF (aaU (u=[]/\(low=0\/A u)));have sV:=zH bZ;clear bZ
     go_cut [24] (λs24 W=>s24= .bool st/\Bw w1 W)
     case first=>
      by_cases hu0:un=0
      ·subst hu0;have EI:u=[]:=List.eq_nil_of_length_eq_zero pR.out.symm;have jV:decide (((0:Nat):Int)=0)=true:=(by simp);by_cases Me:low=0
       ·subst Me;obtain rfl:true=st:=(by rw[<-sV.out];exact(acE ⟨EI,.inl rfl⟩).symm);go_wp2_with fail;go_meet;exact⟨rfl,Below.refl _ _⟩
       have gJ:decide (low=0)=false:=(by simpa using Me);have bZ:aaU (A u)=st:=(by rw[<-sV.out];exact adn ⟨λh=>⟨EI,.inr h⟩,λh=>h.2.resolve_left Me⟩);have auA:=pF.out;rw[bZ] at auA;have auA:=zH auA;clear bZ EI
       go_wp2_with (go_at_call 142;refine (auA.out w1 nK.out).mono ?_;rintro e w2 ⟨rfl,ag⟩)
       go_meet;exact⟨rfl,ag⟩
      have jV:decide ((un:Int)=0)=false:=(by simp;omega)
      obtain rfl:false=st:=by
       rw[<-sV.out];refine (aeT ?_).symm;rintro⟨h,-⟩;rw[h] at pR;exact hu0 pR.out
      go_wp2_with fail;go_meet;exact⟨rfl,Below.refl _ _⟩
     obtain⟨wb,hwb⟩:=zE wc;subst hwb;obtain⟨rfl,dY⟩:=hcut;have Eh:=zH (nK.out.seq dY);have HBX:=zH dY;have uT:=zH (ae aQ.out dY);clear dY q0 q1 q2 q3 q4 q5 q6 q7 q8 q9 aF aG;cases st
     rotate_left 1
     ·have bZ:=adG.1 sV.out;obtain rfl:true=R:=(by rw[<-HR.out];exact(acE (aul h0 HH.out bZ.1 bZ.2)).symm);go_wp2_with fail;go_ret;exact⟨rfl,Eh.out⟩
     have bZ:¬(u=[]/\(low=0\/A u)):=λh=>(by have:=acE h;rw[sV.out] at this;cases this);have FZ:=zH bZ;clear bZ;by_cases hz:high=0
     ·obtain rfl:false=R:=(by rw[<-HR.out];exact(aeT (auk h0 HH.out FZ.out hz)).symm);subst hz;go_wp2_with fail;go_ret;exact⟨rfl,Eh.out⟩
     have jc:decide (high=0)=false:=(by simpa using hz);have aPa:(high==0)=false:=(by simpa using hz);have HF0:Hid (aaU (adm A low high u 0)=R):=zH (by rw[<-HR.out];exact(adn (aui h0 HH.out FZ.out hz)).symm);go_wp2_with fail
     go_loopw [11] (λUQ W=>∃i:Nat,i<=un+1/\UQ= .int .i64 i/\Hid (aaU (adm A low high u i)=R)/\Bw wb W) (λUQ _=>un+1 - (intOf UQ).toNat)
     case atStart=>exact⟨0,zO,rfl,HF0,Below.refl _ _⟩
     obtain⟨i,hi,rfl,HF,dU⟩:=hrel;clear hz jc aPa;have aH:Bw w wr:=Eh.out.seq dU;obtain⟨q0,q1,q2,q3,q4,q5,q6,q7,q8,q9,aF,aG⟩:=aj (ae uT.out dU);have HBR:=zH dU;have nG:=zH aH;clear dU;by_cases aN:i<=un
     ·have sZ:decide ((i:Int)<=(un:Int))=true:=(by simp;omega);by_cases hsk:i=0/\low=0
      ·obtain⟨rfl,rfl⟩:=hsk;clear aH;go_wp2_with fail;go_roundw
       case rel=>exact⟨0+1,zO,by go_num,zH (by rw[<-HF.out];exact(adn (ajH (.inl ⟨rfl,rfl⟩))).symm),HBR.out⟩
       simp[intOf]
      obtain⟨b1,auB⟩:=zF (aaU (A (u.take i)));obtain⟨lo',aHi⟩:=zF (max (low - 1) 0);obtain⟨DT,aHj⟩:=zF (max (high - 1) (-1));obtain⟨b2,auD⟩:=zF (aaU (aaw A lo' DT (u.drop i)))
      have jC:aaU (adm A low high u i)=if (b1&&b2)=true then true else aaU (adm A low high u (i+1)):=by
       cases hb:(b1&&b2) with
       | true=>
         rw[z7] at hb;rw[if_pos rfl];exact acE (aue (by rw[<-pR.out];exact aN) hsk (adG.1 (by rw[auB];exact hb.1)) (by rw[aHi,aHj];exact adG.1 (by rw[auD];exact hb.2)))
       | false=>
         rw[if_neg zP];refine adn (ajH (.inr ?_));rintro⟨h1,h2⟩;rw[aHi,aHj] at h2;have g1:=acE h1;have g2:=acE h2;rw[auB] at g1;rw[auD] at g2;rw[g1,g2] at hb;cases hb
      have iO:0<=lo'/\lo'<=1000:=(by omega);have aHk:DT= -1\/lo'<=DT:=(by have:=HH.out;omega);have aIe:DT<=1000:=(by omega);have ZU:Hid (∀W,Bw w W->Rt 142 #[.agg (o5 k mn mx el ck ns nl sp A1 n1 c1 A2 n2 c2 pr A0 n0 c0),.slice eA en ec,.slice alH i uc] W (.bool b1)):=zH λW hb=>(by rw[<-auB];exact HOH.out (u.take i) W alH i uc (HL.out.below hb) ((HU.out.keepW hb).hi aN) zO zO)
      have Xa:Hid (∀W,Bw w W->Rt 75 #[.agg (o5 k mn mx el ck ns nl sp A1 n1 c1 A2 n2 c2 pr A0 n0 c0),.slice eA en ec,.slice (if uc=i then alH else alH.map (·.add (i*2))) (un - i) (uc - i),.int .i64 lo',.int .i64 DT] W (.bool b2)):=zH λW hb=>by
       rw[<-auD];have aI:=(HU.out.keepW hb).lo (c:=uc) aN huc;have hdl:(u.drop i).length=un - i:=(by rw[List.length_drop,<-pR.out]);by_cases UI:i=0
       ·have hlp:0<low:=by
         rcases Int.lt_or_eq_of_le h0 with h | h
         ·exact h
         exact absurd ⟨UI,h.symm⟩ hsk
        exact HIM.out lo'.toNat (by rw[<-HM.out];omega) (u.drop i) lo' DT W _ _ _ (by rw[hdl,UI,<-HN.out,<-pR.out];omega) rfl iO.1 iO.2 aHk aIe (HL.out.below hb) aI zO zO
       exact Po.out (u.drop i).length (by rw[hdl,<-HN.out,<-pR.out];omega) lo'.toNat (u.drop i) lo' DT W _ _ _ rfl rfl iO.1 iO.2 aHk aIe (HL.out.below hb) aI zO zO
      have qV:=zH jC;clear auB auD jC aH;go_upto_region 8 with fail
      go_cut [38] (λs38 W=>s38= .bool false/\Bw wr W)
      case first=>
       by_cases UI:i=0
       ·subst UI;have PL:decide (low=0)=false:=(by simpa using hsk);have aO8:(low==0)=false:=(by simpa using hsk);go_wp2_with fail;go_meet;exact⟨(by first | rfl | rw[aO8]),Below.refl _ _⟩
       have PL:decide ((i:Int)=0)=false:=(by simp;omega);go_wp2_with fail;go_meet;exact⟨rfl,Below.refl _ _⟩
      obtain⟨we,hwe⟩:=zE wc;subst hwe;obtain⟨rfl,jm⟩:=hcut;have auE:Bw wb we:=HBR.out.seq jm;have aAb:Bw w we:=nG.out.seq jm;clear q0 q1 q2 q3 q4 q5 q6 q7 q8 q9 aF aG;obtain⟨q0,q1,q2,q3,q4,q5,q6,q7,q8,q9,aF,aG⟩:=aj (ae uT.out auE);have aMG:=zH auE;have Pq:Hid (Bw w1 we):=zH (HBX.out.seq auE);clear auE jm;have hi1:(0:Int)<=(i:Int):=(by omega);have hi2:(i:Int)<=(uc:Int):=(by omega);have hi3:(i:Int)<=(un:Int):=(by omega);go_wp2_with fail;have hwl:IntKind.i64.wrap (low - 1)=low - 1:=(by rw[IntKind.wrap_i64];omega);have hwh:IntKind.i64.wrap (high - 1)=high - 1:=(by have:=HH.out;rw[IntKind.wrap_i64];omega);obtain⟨uB,huB⟩:=zF ((if uc=i then alH else alH.map (·.add (i*2))));rw[huB] at Xa;have s0:=Since.cell q0;have s1:=Since.cell q1;have s2:=Since.cell q2;have s3:=Since.cell q3;have s4:=Since.cell q4;have s5:=Since.cell q5;have s6:=Since.cell q6;have s7:=Since.cell q7;have s8:=Since.cell q8;have s9:=Since.cell q9;have s10:=Since.cell aF;have UQ:=Since.cell aG;cases b1
      ·refine yh zK zK ?_
       repeat (go_big_quiet_step (first | (go_at_call 142;exact Eo (ZU.out _ (aAb.seq (Since.below _)))) | (go_at_call 75;exact Eo (Xa.out _ (aAb.seq (Since.below _))))))
       refine wpQuiet_nil ?_;intro wq hq;have Xo:=Ap hq;go_wp2_with fail;go_roundw
       case rel=>exact⟨i+1,zO,by go_num,zH (by rw[<-HF.out,qV.out];rfl),aMG.out.seq Xo⟩
       simp[intOf];omega
      refine yh zK zK ?_
      repeat (go_big_quiet_step (first | (go_at_call 142;exact Eo (ZU.out _ (aAb.seq (Since.below _)))) | (go_at_call 75;exact Eo (Xa.out _ (aAb.seq (Since.below _))))))
      refine wpQuiet_nil ?_;intro wq hq;have Xo:=Ap hq;cases b2
      ·go_wp2_with fail;go_roundw
       case rel=>exact⟨i+1,zO,by go_num,zH (by rw[<-HF.out,qV.out];rfl),aMG.out.seq Xo⟩
       simp[intOf];omega
      have HRT:Hid (R=true):=zH (by rw[<-HF.out,qV.out];rfl);go_wp2_with fail;go_ret;exact⟨(by rw[HRT.out];rfl),aAb.seq Xo⟩
     obtain rfl:i=un+1:=(by omega);have sZ:decide (((un+1:Nat):Int)<=(un:Int))=false:=(by simp;omega);obtain rfl:false=R:=(by rw[<-HF.out,pR.out];exact(aeT azU).symm);go_wp2_with fail;go_ret;exact⟨rfl,aH⟩
def apx(elems:List (List Nm))(p:aJ):Prop:=∀(u:List Nm) (W:World) (cs:List Value) (eA:Option Addr) (en ec:Nat) (alH:Option Addr) (un uc:Nat),aqP W p elems cs eA en->aY W (· <W.heap.size) 2 dK u alH un->un<6000000000000->un<=uc->
 Cl 142 #[.agg cs.toArray,.slice eA en ec,.slice alH un uc] W λe w'=>e= .returned (.bool (aaU (auc (Gf elems) p u)))/\Bw W w'
def aEW(elems:List (List Nm))(p:aJ):Prop:=∀(u:List Nm) (W:World) (cs:List Value) (eA:Option Addr) (en ec:Nat) (alH:Option Addr) (un uc:Nat),aqP W p elems cs eA en->aY W (· <W.heap.size) 2 dK u alH un->un<6000000000000->un<=uc->
 Cl 24 #[.agg cs.toArray,.slice eA en ec,.slice alH un uc] W λe w'=>e= .returned (.bool (aaU (aaw (auc (Gf elems) p) p.mn p.mx u)))/\Bw W w'
theorem aM9{elems:List (List Nm)}{p:aJ}(h:apx elems p)(hn:bU p.mn p.mx=true):aEW elems p:=by
 intro u w cs eA en ec alH un uc hL hu JL huc;obtain⟨k,mn,mx,el,ck,ns,nl,sp,A1,n1,c1,A2,n2,c2,pr,A0,n0,c0,rfl,hk,vH,l9,-⟩:=aW hL.rep
 have hb:0<=mn/\mn<=1000/\(mx= -1\/mn<=mx)/\mx<=1000:=by
  rw[vH,l9] at hn;unfold bU at hn;simp only[Bool.and_eq_true,Bool.or_eq_true,z18] at hn;omega
 have HT:Hid (∀W,Bw w W->Rt 75 #[.agg (o5 k mn mx el ck ns nl sp A1 n1 c1 A2 n2 c2 pr A0 n0 c0),.slice eA en ec,.slice alH un uc,.int .i64 mn,.int .i64 mx] W (.bool (aaU (aaw (auc (Gf elems) p) p.mn p.mx u)))):=zH λW hW=>by
  rw[vH,l9];exact aMk (auc (Gf elems) p) p elems _ eA en ec (λu W alH un uc h1 h2 h3 h4=>h u W _ eA en ec alH un uc h1 h2 h3 h4) _ _ u mn mx W alH un uc rfl rfl hb.1 hb.2.1 hb.2.2.1 hb.2.2.2 (hL.below hW) (hu.keepW hW) JL huc
 obtain⟨w1,bI,S1,nC,ai⟩:=af w (.cells #[.int .i64 k,.int .i64 mn,.int .i64 mx,.int .i64 el,.int .i64 ck,.string ns,.string nl,.string sp,.slice A1 n1 c1,.slice A2 n2 c2,.int .i64 pr,.slice A0 n0 c0] 29);have q0:=aj S1;obtain⟨r,hr⟩:=zF (aaU (aaw (auc (Gf elems) p) p.mn p.mx u));rw[hr] at HT ⊢;clear h hn hL hu hk vH l9 hb S1 hr;go_enter Tryz.func24,Tryz.ntmps24;go_wp2_with fail;refine (HT.out w1 ai).mono ?_;rintro e w2 ⟨rfl,ag⟩;go_wp2_with fail;go_ret;exact⟨rfl,ai.seq ag⟩
theorem bM.tail{w:World}{F:Nat->Prop}{sz:Nat}{e:List D}{es:List (List D)}{A:Option Addr}{n c:Nat}(h:bM w F sz (e::es) A n)(hc:n<=c):bM w F sz es (if c=1 then A else A.map (·.add (1*sz))) (n - 1):=by
 have hn:n=es.length+1:=h.1;refine⟨zO,λhp=>?_⟩;obtain⟨b,off,h1,h2,h3⟩:=h.2 zO;rw[bK] at h3;rw[if_neg zO,h1];exact⟨b,off+1*sz,by simp[Addr.add],h2,by rw[Nat.one_mul];exact h3.2⟩
def aLO(elems:List (List Nm))(l:List aJ):Prop:=∀(u:List Nm) (w:World) (A:Option Addr) (n c:Nat) (eA:Option Addr) (en ec:Nat) (alH:Option Addr) (un uc:Nat),bM w (· <w.heap.size) 12 (l.map aZ) A n->n<=c->ajk w l A->bM w (· <w.heap.size) 1 (elems.map nU) eA en->aY w (· <w.heap.size) 2 dK u alH un->un<6000000000000->un<=uc->
 Cl 174 #[.slice A n c,.slice eA en ec,.slice alH un uc] w λe w'=>e= .returned (.bool (aaU (afY (Gf elems) l u)))/\Bw w w'
theorem aEX(elems:List (List Nm)):∀(l:List aJ),(∀x∈l,aEW elems x/\x.kind≠5)->aLO elems l
 | [],_=>by
   intro u w A n c eA en ec alH un uc hA hc hK hE hu JL huc;have h0:n=0:=hA.1;subst h0;have hd:decide (((0:Nat):Int)=0)=true:=(by simp);have hdb:(((0:Nat):Int)==0)=true:=(by simp)
   have jV:aaU (afY (Gf elems) [] u)=decide ((un:Int)=0):=by
    rw[hu.1];by_cases h:u=[]
    ·rw[acE (by rw[afY];exact h)];subst h;simp
    rw[aeT (by rw[afY];exact h)];have:u.length≠0:=λe=>h (List.eq_nil_of_length_eq_zero e);simp;omega
   rw[jV];clear hA hE hu jV;go_enter Tryz.func174,Tryz.ntmps174;go_wp2_with fail;go_ret;exact⟨rfl,Below.refl _ _⟩
 | x::l,hl=>by
   intro u w A n c eA en ec alH un uc hA hc hK hE hu JL huc;have hlen:n=l.length+1:=(by have:=hA.1;rwa [List.length_map] at this);have hul:un=u.length:=hu.1;obtain⟨R,hR⟩:=zF (aaU (afY (Gf elems) (x::l) u));rw[hR]
   have HF0:Hid (aaU (aum (aaw (auc (Gf elems) x) x.mn x.mx) (afY (Gf elems) l) u 0)=R):=zH (by
    rw[<-hR];have:aeQ (Gf elems) x=auc (Gf elems) x:=(by funext v;unfold auc;rw[if_neg (hl x (List.mem_cons_self ..)).2]);rw[<-this]
    exact(adn (aMB _ _ _ _)).symm)
   have HX:=zH (hl x (List.mem_cons_self ..)).1;have HI:=zH (aEX elems l λy hy=>hl y (List.mem_cons_of_mem _ hy));obtain⟨b,off,p,v0,v1,v2,v3,v4,v5,v6,v7,v8,v9,v10,v11,HP,eG,z0,z1,z2,z3,z4,z5,z6,z7,z8,z9,nZ,og,dO⟩:=hA.aQm hK (i:=0) zO c;obtain rfl:x=p:=zI HP.out;simp only[Nat.zero_mul,Nat.add_zero] at z0 z1 z2 z3 z4 z5 z6 z7 z8 z9 nZ og;have amx:∀W,(Instr.indexAt 27 (.slice A n c) (.int .i64 0)).run Tryz.prog W= .ok (.pointer (some ⟨b,off,none⟩)) W:=(by simpa using dO);clear dO;have HCD:Hid (∀V,Bw w V->(V.cell? ⟨b,off,none⟩=some v0/\V.cell? ⟨b,off+1,none⟩=some v1/\V.cell? ⟨b,off+2,none⟩=some v2/\V.cell? ⟨b,off+3,none⟩=some v3/\V.cell? ⟨b,off+4,none⟩=some v4/\V.cell? ⟨b,off+5,none⟩=some v5/\V.cell? ⟨b,off+6,none⟩=some v6/\V.cell? ⟨b,off+7,none⟩=some v7/\V.cell? ⟨b,off+8,none⟩=some v8/\V.cell? ⟨b,off+9,none⟩=some v9/\V.cell? ⟨b,off+10,none⟩=some v10/\V.cell? ⟨b,off+11,none⟩=some v11)):=zH λV hV=>⟨(hV.cell (World.block_lt_of_cell? w _ z0)).trans z0,(hV.cell (World.block_lt_of_cell? w _ z1)).trans z1,(hV.cell (World.block_lt_of_cell? w _ z2)).trans z2,(hV.cell (World.block_lt_of_cell? w _ z3)).trans z3,(hV.cell (World.block_lt_of_cell? w _ z4)).trans z4,(hV.cell (World.block_lt_of_cell? w _ z5)).trans z5,(hV.cell (World.block_lt_of_cell? w _ z6)).trans z6,(hV.cell (World.block_lt_of_cell? w _ z7)).trans z7,(hV.cell (World.block_lt_of_cell? w _ z8)).trans z8,(hV.cell (World.block_lt_of_cell? w _ z9)).trans z9,(hV.cell (World.block_lt_of_cell? w _ nZ)).trans nZ,(hV.cell (World.block_lt_of_cell? w _ og)).trans og⟩;have HA:=zH hA;have HK:=zH hK;have HE:=zH hE;have HU:=zH hu;have Ph:=zH eG;have pR:=zH hlen;have HUL:=zH hul;have hd:decide ((n:Int)=0)=false:=(by simp;omega);have hdb:((n:Int)==0)=false:=(by simp;omega);clear hl hR hA hK hE hu eG hlen hul HP z0 z1 z2 z3 z4 z5 z6 z7 z8 z9 nZ og;go_enter Tryz.func174,Tryz.ntmps174;go_wp2_with fail
   go_loopw [7] (λs7 W=>∃i:Nat,i<=un+1/\s7= .int .i64 i/\Hid (aaU (aum (aaw (auc (Gf elems) x) x.mn x.mx) (afY (Gf elems) l) u i)=R)/\Bw w W) (λs7 _=>un+1 - (intOf s7).toNat)
   case atStart=>exact⟨0,zO,rfl,HF0,Below.refl _ _⟩
   obtain⟨i,hi,rfl,HF,dU⟩:=hrel;have HBR:=zH dU;by_cases aN:i<=un
   ·have sZ:decide ((i:Int)<=(un:Int))=true:=(by simp;omega);obtain⟨b1,ai⟩:=zF (aaU (aaw (auc (Gf elems) x) x.mn x.mx (u.take i)));obtain⟨b2,ag⟩:=zF (aaU (afY (Gf elems) l (u.drop i)))
    have jC:aaU (aum (aaw (auc (Gf elems) x) x.mn x.mx) (afY (Gf elems) l) u i)=if (b1&&b2)=true then true else aaU (aum (aaw (auc (Gf elems) x) x.mn x.mx) (afY (Gf elems) l) u (i+1)):=by
     cases hb:(b1&&b2) with
     | true=>
       rw[Bool.and_eq_true] at hb;rw[if_pos rfl];exact acE ⟨i,zR _,by rw[<-HUL.out];exact aN,adG.1 (by rw[ai];exact hb.1),adG.1 (by rw[ag];exact hb.2)⟩
     | false=>
       rw[if_neg zP];refine adn (aMh ?_);rintro⟨h1,h2⟩;have g1:=acE h1;have g2:=acE h2;rw[ai] at g1;rw[ag] at g2;rw[g1,g2] at hb;cases hb
    have ZU:Hid (∀W,Bw w W->Rt 24 #[.agg #[v0,v1,v2,v3,v4,v5,v6,v7,v8,v9,v10,v11],.slice eA en ec,.slice alH i uc] W (.bool b1)):=zH λW hb=>(by rw[<-ai];exact HX.out (u.take i) W _ eA en ec alH i uc ⟨Ph.out.1.keepW hb,Ph.out.2.keepW hb,HE.out.keepW hb⟩ ((HU.out.keepW hb).hi aN) zO zO)
    have Xa:Hid (∀W,Bw w W->Rt 174 #[.slice (if c=1 then A else A.map (·.add (1*12))) (n - 1) (c - 1),.slice eA en ec,.slice (if uc=i then alH else alH.map (·.add (i*2))) (un - i) (uc - i)] W (.bool b2)):=zH λW hb=>by
     rw[<-ag];exact HI.out (u.drop i) W _ _ _ eA en ec _ _ _ (bM.tail (HA.out.keepW hb) hc) zO (ajk.tail (HK.out.keepW hb) (by obtain⟨b0,o0,h0,-⟩:=HA.out.2 (by have:=pR.out;omega);exact⟨b0,o0,h0⟩) (by rcases Nat.lt_or_ge 1 c with h | h;exact .inl h;exact .inr (List.eq_nil_of_length_eq_zero (by have:=pR.out;omega)))) (HE.out.keepW hb) ((HU.out.keepW hb).lo (c:=uc) aN huc) zO zO
    have qV:=zH jC;have hi1:(0:Int)<=(i:Int):=(by omega);have hj1:(1:Int)<=(n:Int):=(by have:=pR.out;omega);have hj2:(1:Int)<=(c:Int):=(by omega);have hi2:(i:Int)<=(uc:Int):=(by omega);have hi3:(i:Int)<=(un:Int):=(by omega);clear ai ag jC;go_wp2_with fail;have hcd:=HCD.out wr dU;obtain⟨y0,y1,y2,y3,y4,y5,y6,y7,y8,y9,y10,y11⟩:=hcd;have s0:=Since.cell y0;have s1:=Since.cell y1;have s2:=Since.cell y2;have s3:=Since.cell y3;have s4:=Since.cell y4;have s5:=Since.cell y5;have s6:=Since.cell y6;have s7:=Since.cell y7;have s8:=Since.cell y8;have s9:=Since.cell y9;have s10:=Since.cell y10;have UQ:=Since.cell y11;obtain⟨uB,huB⟩:=zF ((if uc=i then alH else alH.map (·.add (i*2))));obtain⟨aTs,haB⟩:=zF ((if c=1 then A else A.map (·.add (1*12))));rw[huB,haB] at Xa;have aTq:(if c=1 then A else A.map λx=>(⟨x.block,x.off+12,none⟩:Addr))=aTs:=haB;cases b1
    ·refine yh zK zK ?_
     repeat (go_big_quiet_step (first | (go_at_call 24;exact Eo (ZU.out _ (dU.seq (Since.below _)))) | (go_at_call 174;exact Eo (Xa.out _ (dU.seq (Since.below _))))))
     refine wpQuiet_nil ?_;intro wq hq;have Xo:=Ap hq;go_wp2_with fail;go_roundw
     case rel=>exact⟨i+1,zO,by go_num,zH (by rw[<-HF.out,qV.out];rfl),HBR.out.seq Xo⟩
     simp[intOf];omega
    refine yh zK zK ?_
    repeat (go_big_quiet_step (first | (go_at_call 24;exact Eo (ZU.out _ (dU.seq (Since.below _)))) | (go_at_call 174;exact Eo (Xa.out _ (dU.seq (Since.below _))))))
    refine wpQuiet_nil ?_;intro wq hq;have Xo:=Ap hq;cases b2
    ·go_wp2_with fail;go_roundw
     case rel=>exact⟨i+1,zO,by go_num,zH (by rw[<-HF.out,qV.out];rfl),HBR.out.seq Xo⟩
     simp[intOf];omega
    have HRT:Hid (R=true):=zH (by rw[<-HF.out,qV.out];rfl);go_wp2_with fail;go_ret;exact⟨(by rw[HRT.out];rfl),HBR.out.seq Xo⟩
   obtain rfl:i=un+1:=(by omega);have sZ:decide (((un+1:Nat):Int)<=(un:Int))=false:=(by simp;omega);obtain rfl:false=R:=(by rw[<-HF.out,HUL.out];exact(aeT aMA).symm);go_wp2_with fail;go_ret;exact⟨rfl,dU⟩
end Go.Proofs.YtgmnnegfndpakaaGreatDoor
