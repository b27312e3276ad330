import Derived.Test.YtgmnnegfndpakaaGreatDoorH03
import Derived.Test.YtgmnnegfndpakaaGreatDoorH00
import Derived.Sort.Walk0
import Derived.Deep.RegionHeld3
import Derived.Lib.ItoaNum
import Derived.Handy
import Derived.Maps.Own
import Derived.Deep.DeepFit
set_option maxHeartbeats 20000000
set_option maxRecDepth 100000
namespace Go.Proofs.YtgmnnegfndpakaaGreatDoor
open Go.RowKit Go.Proofs.Tryz
variable{α κ:Type}{i sz n gm g b g1 g2:Nat}{ch:aT}{w w':World}{A:Option Addr}{v:Bool}{u0 u1:Value}{t kt et:TypeId}{a:ByteArray}{P:Program}{l:List (κ×Bool)}{cells:α->List Value}{enc:κ->Value}{eq:κ->κ->Bool}
def kQ(x y:ByteArray):Bool:=decide (x.data.toList<y.data.toList)
def jg(x y:Nm):Bool:=kQ x.1 y.1||(eqS x.1 y.1&&kQ x.2 y.2)
theorem Ns:∀(a b:List UInt8),(Lib.compareBytes a b<0↔a<b)/\(Lib.compareBytes a b=0↔a=b)/\-1<=Lib.compareBytes a b/\Lib.compareBytes a b<=1
 | [],[]=>by simp[Lib.compareBytes]
 | [],_::_=>by simp[Lib.compareBytes]
 | _::_,[]=>by simp[Lib.compareBytes]
 | x::l1,y::l2=>by
   have ih:=Ns l1 l2;rw[Lib.compareBytes];by_cases h:x<y
   ·rw[j6 h];refine⟨⟨λ_=>List.cons_lt_cons_iff.2 (.inl h),λ_=>by omega⟩,⟨λe=>by simp at e,λe=>?_⟩,by omega,by omega⟩
    injection e with e1 e2
    rw[e1] at h;exact absurd h (UInt8.lt_irrefl _)
   rw[j5 h];by_cases h2:y<x
   ·rw[j6 h2];refine⟨⟨λe=>by simp at e,λe=>?_⟩,⟨λe=>by simp at e,λe=>?_⟩,by omega,by omega⟩
    ·rcases List.cons_lt_cons_iff.1 e with e | ⟨e,_⟩
     ·exact absurd e h
     rw[e] at h2;exact absurd h2 (UInt8.lt_irrefl _)
    injection e with e1 e2
    rw[e1] at h2;exact absurd h2 (UInt8.lt_irrefl _)
   rw[j5 h2];have e:x=y:=UInt8.le_antisymm (UInt8.not_lt.1 h2) (UInt8.not_lt.1 h);subst e;refine⟨⟨λg=>List.cons_lt_cons_iff.2 (.inr ⟨rfl,ih.1.1 g⟩),λg=>?_⟩,⟨λg=>by rw[ih.2.1.1 g],λg=>?_⟩,ih.2.2.1,ih.2.2.2⟩
   ·rcases List.cons_lt_cons_iff.1 g with g | ⟨_,g⟩
    ·exact absurd g h
    exact ih.1.2 g
   injection g with _ g2
   exact ih.2.1.2 g2
def F7(x y:ByteArray):Int:=Lib.compareBytes x.data.toList y.data.toList
theorem Ym(x y:ByteArray):decide (F7 x y<0)=kQ x y:=by
 unfold kQ;rw[decide_eq_decide];exact(Ns _ _).1
theorem Zj(x y:ByteArray):F7 x y=0↔x=y:=by
 unfold F7;rw[(Ns _ _).2.1];exact⟨λh=>toList_eq (by rw[Lib.toList_data,Lib.toList_data,h]),λh=>by rw[h]⟩
theorem arh(x y:ByteArray): -1<=F7 x y/\F7 x y<=1:=(Ns _ _).2.2
def Iw(x y:Nm):Int:=if F7 x.1 y.1≠0 then F7 x.1 y.1 else F7 x.2 y.2
theorem afx(x y:Nm):decide (Iw x y<0)=jg x y:=by
 unfold Iw jg;by_cases h:F7 x.1 y.1=0
 ·have e:=(Zj _ _).1 h;have e2:kQ x.1 y.1=false:=(by rw[<-Ym,h];rfl);rw[j5 (by simpa using h),e2,iV.2 e,Ym];simp
 have e:eqS x.1 y.1=false:=by
  cases he:eqS x.1 y.1
  ·rfl
  exact absurd ((Zj _ _).2 (iV.1 he)) h
 rw[j6 h,e,Ym];simp
def Wj(lt:α->α->Bool)(x:α):List α->Nat
 | []=>0
 | y::l=>if lt y x then Wj lt x l+1 else 0
def Bj(lt eq:α->α->Bool)(x:α)(l:List α):List α:=
 match l[Wj lt x l]? with
 | some y=>if eq y x then l else l.take (Wj lt x l)++x::l.drop (Wj lt x l)
 | none=>l.take (Wj lt x l)++x::l.drop (Wj lt x l)
def eqN(x y:Nm):Bool:=eqS x.1 y.1&&eqS x.2 y.2
def sF(l:List Nm)(x:Nm):List Nm:=Bj jg eqN x l
def qy(l:List ByteArray)(x:ByteArray):List ByteArray:=Bj kQ eqS x l

mutual
def kC:aT->Nat
 | .mk _ _ _ _ ex ar=>1+iZ ex+iZ ar
def iZ:List aT->Nat
 | []=>0
 | c::l=>kC c+iZ l
end
abbrev wY:=List Nm×List ByteArray
mutual
def Bl:aT->wY->wY
 | .mk k ns nl s ex ar,m=>jP ar (jP ex (if k=1 then (sF m.1 (ns,nl),qy m.2 ns) else if k=2 then (m.1,qy m.2 s) else m))
def jP:List aT->wY->wY
 | [],m=>m
 | c::l,m=>jP l (Bl c m)
end
theorem Iy(lt eq:α->α->Bool)(x:α)(l:List α):(Bj lt eq x l).length<=l.length+1:=by
 unfold Bj
 split
 ·split<;>simp<;>omega
 simp;omega
mutual
theorem amg:∀(c:aT) (m:wY),(Bl c m).1.length<=m.1.length+kC c/\(Bl c m).2.length<=m.2.length+kC c
 | .mk k ns nl s ex ar,m=>by
   rw[Bl,kC];generalize hm:(if k=1 then (sF m.1 (ns,nl),qy m.2 ns) else if k=2 then (m.1,qy m.2 s) else m)=m';have h1:=Iz ar (jP ex m');have h2:=Iz ex m'
   have h3:m'.1.length<=m.1.length+1/\m'.2.length<=m.2.length+1:=by
    rw[<-hm]
    split
    ·exact⟨Iy _ _ _ _,Iy _ _ _ _⟩
    split
    ·exact⟨zP,Iy _ _ _ _⟩
    exact⟨zO,zO⟩
   omega
theorem Iz:∀(l:List aT) (m:wY),(jP l m).1.length<=m.1.length+iZ l/\(jP l m).2.length<=m.2.length+iZ l
 | [],m=>by rw[jP,iZ];exact⟨zR _,zR _⟩
 | c::l,m=>by
   rw[jP,iZ];have h1:=Iz l (Bl c m);have h2:=amg c m;omega
end
theorem ajg{l:List aT}(h:l[i]?=ch):iZ (l.drop i)=kC ch+iZ (l.drop (i+1)):=by
 obtain⟨hi,rfl⟩:=z4.1 h;rw[nZ hi,iZ]
def apz(w:World)(gm:Nat)(m:wY):Prop:=
 ∃A n c A' n' c',w.heap[gm]?=some (.cells #[.slice A n c,.slice A' n' c'] 284)/\aY w (gm< ·) 2 dK m.1 A n/\aY w (gm< ·) 1 mG m.2 A' n'/\n<=c/\c<=maxLen/\n'<=c'/\c'<=maxLen
theorem aY.drew{F:Nat->Prop}{l:List α}(h:aY w F sz cells l A n):aY w.drew F sz cells l A n:=h.keep λ_ hb=>⟨hb,rfl⟩
theorem aY.kept{l:List α}(h:aY w (gm< ·) sz cells l A n)(hl:∀x,(cells x).length=sz)(bY:0<sz)(hk:Kept (· =gm) w w'):aY w' (gm< ·) sz cells l A n:=
 (h.both hl bY).keep λb hb=>⟨hb.1,hk.block b hb.2 (λe=>by have:=hb.1;omega)⟩
theorem apz.below{m:wY}(h:apz w gm m)(hb:Bw w w'):apz w' gm m:=by
 obtain⟨A,n,c,A',n',c',hh,r1,r2,r⟩:=h;exact⟨A,n,c,A',n',c',ae hh hb,r1.kept wX zD (Qh hb),r2.kept Ii zD (Qh hb),r⟩
theorem Fa{v:Value}(h:w.heap[g]?=Zc #[u0,u1] t):(w.setCell g v).heap[g]?=Zc #[v,u1] t:=by rw[dM h];rfl
theorem Fb{v:Value}(h:w.heap[g]?=Zc #[u0,u1] t):(w.setCell (g,1) v).heap[g]?=Zc #[u0,v] t:=by rw[dM h];rfl
def pG(n:Nat):List UInt8:=if n=0 then [] else Lib.decDigits n
theorem Ho(h:0<n):pG n=pG (n / 10)++[UInt8.ofNat (48+n % 10)]:=by
 unfold pG;rw[j5 zO,Lib.decDigits];by_cases h1:n<10
 ·rw[dif_pos h1,j6 zO];simp[Nat.mod_eq_of_lt h1]
 rw[dif_neg h1,j5 zO]
def dL(a:ByteArray)(n:Nat):ByteArray:=a++⟨(pG n).toArray⟩
def xB:ByteArray:=⟨#[120]⟩
def uB:ByteArray:=⟨#[117]⟩
def BH(taken:Nat->Bool)(I:Nat):Prop:=taken I=false/\∀j,j<I->taken j=true
def IA(st l:List Nm)(a:ByteArray)(i:Nat):Bool:=ru st a (dL xB i)||ru l a (dL xB i)
def abJ:List ByteArray->ByteArray->Bool
 | [],_=>false
 | x::l,s=>eqS x s||abJ l s
theorem abK(l:List ByteArray)(s:ByteArray):abJ l s=true↔s∈l:=by
 induction l with
 | nil=>simp[abJ]
 | cons x l ih=>
   simp only[abJ,Bool.or_eq_true,iV,ih,TT];exact⟨λh=>h.imp (λe=>e.symm) id,λh=>h.imp (λe=>e.symm) id⟩
def Fe(st:List ByteArray)(i:Nat):Bool:=abJ st (dL uB i)

theorem OZ(h:0<n):pG n≠[]:=by
 rw[Ho h];simp
theorem ajh{a:Nat}(ha:a<10)(hb:b<10)(h:UInt8.ofNat (48+a)=UInt8.ofNat (48+b)):a=b:=by
 have h1:=congrArg UInt8.toNat h;simp only[UInt8.toNat_ofNat'] at h1;omega
theorem aji:∀(n m:Nat),pG n=pG m->n=m:=by
 intro n
 induction n using Nat.strongRecOn with
 | _ n ih=>
   intro m h
   rcases Nat.eq_zero_or_pos n with hn | hn
   ·subst hn
    rcases Nat.eq_zero_or_pos m with hm | hm
    ·exact hm.symm
    exact absurd (h.symm.trans (by simp[pG])) (OZ hm)
   rcases Nat.eq_zero_or_pos m with hm | hm
   ·subst hm;exact absurd (h.trans (by simp[pG])) (OZ hn)
   rw[Ho hn,Ho hm] at h;obtain⟨h1,h2⟩:=List.append_inj' h rfl;have h3:=ih (n / 10) zO (m / 10) h1;have h4:=ajh (Nat.mod_lt _ zO) (Nat.mod_lt _ zO) (by simpa using h2);omega
theorem Nu{m:Nat}(h:dL a n=dL a m):n=m:=by
 unfold dL at h;have h1:=congrArg (λx=>x.data.toList) h;simp only[ByteArray.data_append,Array.toList_append] at h1;exact aji _ _ (List.append_cancel_left h1)
theorem wZ[DecidableEq α]:∀(l1 l2:List α),l1.Nodup->(∀x∈l1,x∈l2)->l1.length<=l2.length
 | [],l2,_,_=>by simp
 | x::l1,l2,hn,hs=>by
   have hx:x∈l2:=hs x zP
   have h1:=wZ l1 (l2.erase x) (List.nodup_cons.1 hn).2 (λy hy=>by
    have dD:y≠x:=(by rintro rfl;exact(List.nodup_cons.1 hn).1 hy)
    exact(List.mem_erase_of_ne dD).2 (hs y (by simp[hy])))
   rw[List.length_erase_of_mem hx] at h1;have:0<l2.length:=List.length_pos_of_mem hx;simp;omega
theorem EU[DecidableEq α](f:Nat->α)(hf:∀i j,f i=f j->i=j)(l:List α):∃i,i<=l.length/\f i ∉ l:=by
 apply Classical.byContradiction;intro h;have h2:∀i,i<=l.length->f i∈l:=λi hi=>Classical.byContradiction λhn=>h ⟨i,hi,hn⟩
 have h3:=wZ ((List.range (l.length+1)).map f) l (by
  rw[List.nodup_iff_pairwise_ne,List.pairwise_map]
  exact(List.nodup_iff_pairwise_ne.1 List.nodup_range).imp λdD he=>dD (hf _ _ he)) (by
  intro x hx;obtain⟨i,hi,rfl⟩:=List.mem_map.1 hx
  exact h2 i (by have:=List.mem_range.1 hi;omega))
 simp at h3;omega
noncomputable def BI(taken:Nat->Bool):Nat:=Classical.epsilon (BH taken)
theorem Qv{taken:Nat->Bool}{N:Nat}(h:∃i,i<=N/\taken i=false):BH taken (BI taken)/\BI taken<=N:=by
 have hex:∃I,BH taken I:=by
  obtain⟨i,hi⟩:∃i,taken i=false:=let ⟨i,_,hi⟩:=h;⟨i,hi⟩;clear h
  induction i using Nat.strongRecOn with
  | _ i ih=>
    by_cases hj:∃j,j<i/\taken j=false
    ·obtain⟨j,h1,h2⟩:=hj;exact ih j h1 h2
    refine⟨i,hi,λj GL=>?_⟩
    cases ht:taken j with
    | true=>rfl
    | false=>exact absurd ⟨j,GL,ht⟩ hj
 have h1:BH taken (BI taken):=Classical.epsilon_spec hex;refine⟨h1,?_⟩;obtain⟨i,hi,ht⟩:=h
 rcases i8 i (BI taken) with h2 | h2
 ·rw[h1.2 i h2] at ht;cases ht
 omega
theorem Wl(st l:List Nm)(a:ByteArray)(i:Nat):IA st l a i=true↔(a,dL xB i)∈st++l:=by
 unfold IA;rw[Bool.or_eq_true,Nr,Nr,z12]
theorem axG(st l:List Nm)(a:ByteArray):∃i,i<=(st++l).length/\IA st l a i=false:=by
 obtain⟨i,h1,h2⟩:=EU (λi=>(a,dL xB i)) (λi j h=>Nu (Prod.mk.inj h).2) (st++l);refine⟨i,h1,?_⟩
 cases h:IA st l a i with
 | false=>rfl
 | true=>exact absurd ((Wl _ _ _ _).1 h) h2
theorem axH(st:List ByteArray):∃i,i<=st.length/\Fe st i=false:=by
 obtain⟨i,h1,h2⟩:=EU (λi=>dL uB i) (λi j h=>Nu h) st;refine⟨i,h1,?_⟩
 cases h:Fe st i with
 | false=>rfl
 | true=>exact absurd ((abK _ _).1 h) h2
noncomputable def Wn(st l:List Nm)(a:ByteArray):Nm:=(a,dL xB (BI (IA st l a)))
noncomputable def amh(st:List ByteArray):ByteArray:=dL uB (BI (Fe st))
noncomputable def abj(m:wY)(l:List Nm):List Nm:=m.1++m.2.map (Wn m.1 l)++[Wn m.1 l (amh m.2)]
theorem ax.base{base base':Nat}{e:TypeId}{l:List α}{v:Value}(h:ax w base e sz cells l v)(hb:base'<=base):ax w base' e sz cells l v:=by
 refine⟨h.1,?_⟩
 rcases h.2 with h2 | ⟨g,cap,cur,rfl,hg,r⟩
 ·exact .inl h2
 exact .inr ⟨g,cap,cur,rfl,zT hb hg,r⟩
def arU(Zk:Int)(x y:Bool):Bool:=if Zk=1 then x||y else if Zk=2 then x&&y else if Zk=3 then x&&!y else x
theorem arV(a b:ByteArray)(c:aT)(cs:List Value)(w:World)(F:Nat->Prop)(h:dA w F c cs)(hv:vk c a b=v):
 Rt 157 #[.agg cs.toArray,.agg #[a,b]] w v:=by
 subst hv;exact arS a b c cs w F h
theorem rD(w:World)(o o' o'':Obj):∃w1,((w.alloc o).alloc o').alloc o''=w1/\w1.heap[w.heap.size]?=some o/\w1.heap[w.heap.size+1]?=some o'/\w1.heap[w.heap.size+1+1]?=some o''/\w.heap.size+1+1<w1.heap.size/\Bw w w1:=by
 have e1:(w.alloc o).heap.size=w.heap.size+1:=zS4;have e2:((w.alloc o).alloc o').heap.size=w.heap.size+1+1:=zS4;refine⟨_,rfl,fK (fK (heap_alloc_new w o)),?_,?_,zP,(((j9 _ _).alloc (zR _) _).alloc zP _).alloc zS1 _⟩
 ·rw[<-e1];exact fK (heap_alloc_new _ _)
 rw[<-e2];exact heap_alloc_new _ _

section
variable {κ:Type} {P:Program}
def mE(enc:κ->Value):List (κ×Bool)->Nat->List MapEntry
 | [],_=>[]
 | (k,v)::l,i=>⟨enc k,v,i⟩::mE enc l (i+1)
def pos(eq:κ->κ->Bool)(k:κ):List (κ×Bool)->Nat->Option (Nat×Bool)
 | [],_=>none
 | (k',v)::l,i=>if eq k k' then some (i,v) else pos eq k l (i+1)
def look(eq:κ->κ->Bool)(k:κ):List (κ×Bool)->Option Bool
 | []=>none
 | (k',v)::l=>if eq k k' then some v else look eq k l
def iK(eq:κ->κ->Bool)(k:κ)(v:Bool):List (κ×Bool)->List (κ×Bool)
 | []=>[(k,v)]
 | (k',v')::l=>if eq k k' then (k,v)::l else (k',v')::iK eq k v l
def ug(enc:κ->Value)(l:List (κ×Bool)):Obj:=.map (mE enc l 0).toArray l.length
def iM(w:World)(g:Nat)(enc:κ->Value)(l:List (κ×Bool)):Prop:=w.heap[g]?=some (ug enc l)
structure TI (P:Program) (kt:TypeId) (enc:κ->Value) (eq:κ->κ->Bool):Prop where
 chk:∀e k W,(Instr.checkKey e 10000 kt (enc k)).run P W= .ok () W
 find:∀l k W,(Instr.findKey kt (enc k) (mE enc l 0)).run P W= .ok ((pos eq k l 0).map λp=>(p.1,.bool p.2)) W
 inj:∀a b,eq a b=true->a=b
 same:∀k,Instr.sameBits 10000 (enc k) (enc k)=true
theorem L6(enc:κ->Value):∀(l:List (κ×Bool)) (i:Nat),(mE enc l i).length=l.length
 | [],_=>rfl
 | (k,v)::l,i=>by rw[mE,List.length_cons,List.length_cons,L6 enc l]
theorem QP(enc:κ->Value):∀(l:List (κ×Bool)) (i j:Nat),(mE enc l i)[j]?=(l[j]?).map λp=>⟨enc p.1,p.2,i+j⟩
 | [],_,_=>by simp[mE]
 | (k,v)::l,i,0=>by simp[mE]
 | (k,v)::l,i,j+1=>by
   rw[mE,List.getElem?_cons_succ,List.getElem?_cons_succ,QP enc l (i+1) j,show i+1+j=i+(j+1) by omega]
theorem ab9(eq:κ->κ->Bool)(k:κ):∀(l:List (κ×Bool)) (i:Nat),(pos eq k l i).map (·.2)=look eq k l
 | [],_=>rfl
 | (k',v)::l,i=>by
   rw[pos,look]
   split
   ·rfl
   exact ab9 eq k l (i+1)
theorem WO(enc:κ->Value)(eq:κ->κ->Bool)(k:κ)(v:Bool):∀(l:List (κ×Bool)) (i:Nat),pos eq k l i=none->mE enc (iK eq k v l) i=mE enc l i++[⟨enc k,.bool v,i+l.length⟩]/\(iK eq k v l).length=l.length+1
 | [],i,_=>by simp[iK,mE]
 | (k',v')::l,i,h=>by
   rw[pos] at h
   split at h
   ·cases h
   rename_i hk;have ih:=WO enc eq k v l (i+1) h;rw[iK,j5 hk,mE,mE,ih.1,List.length_cons,List.length_cons,ih.2];exact⟨by rw[show i+1+l.length=i+(l.length+1) by omega];rfl,rfl⟩
theorem WQ(enc:κ->Value)(eq:κ->κ->Bool)(hi:∀a b,eq a b=true->a=b)(k:κ)(v:Bool):∀(l:List (κ×Bool)) (i j:Nat) (u:Bool),pos eq k l i=some (j,u)->
 i<=j/\j<i+l.length/\(iK eq k v l).length=l.length/\(∃e,(mE enc l i)[j - i]?=some e/\e.key=enc k)/\mE enc (iK eq k v l) i=(mE enc l i).modify (j - i) λe=>{ e with key:=enc k,val:=v }
 | [],i,j,u,h=>by simp[pos] at h
 | (k',v')::l,i,j,u,h=>by
   rw[pos] at h
   split at h
   ·rename_i hk;obtain⟨rfl,rfl⟩:i=j/\v'=u:=(by simpa using h);obtain rfl:=hi _ _ hk;rw[iK,j6 hk,Nat.sub_self];exact⟨Nat.le_refl _,by simp,rfl,⟨_,rfl,rfl⟩,by simp[mE]⟩
   rename_i hk;obtain⟨h1,h2,h3,⟨e,he,hek⟩,h5⟩:=WQ enc eq hi k v l (i+1) j u h;rw[iK,j5 hk];have e1:j - i=(j - (i+1))+1:=zO;refine⟨by omega,by rw[List.length_cons];omega,by rw[List.length_cons,List.length_cons,h3],⟨e,by rw[e1,mE];simpa using he,hek⟩,?_⟩;rw[mE,mE,h5,e1];rfl
theorem acb{kt mt:TypeId}{enc:κ->Value}{eq:κ->κ->Bool}(K:TI P kt enc eq)(hm:P.underlying mt=some (.map kt 4))(hz:∀W,(zeroValue 4).run P W= .ok false W){W:World}{g:Nat}{l:List (κ×Bool)}(h:iM W g enc l)(k:κ)(ok:Bool):
 (Instr.lookup mt (.map (some g)) (enc k) ok).run P W= .ok (if ok then .tuple #[((look eq k l).getD false),(look eq k l).isSome] else ((look eq k l).getD false)) W:=by
 obtain⟨hg,hp,hf,hc⟩:=zK4 (MapKept.run_getObj_map (P:=P) (show W.heap[g]?=some (.map (mE enc l 0).toArray l.length) from h)) (ab9 eq k l 0) (K.find l k W) (K.chk (mE enc l 0).toArray.isEmpty k W)
 cases kD:pos eq k l 0 with
 | none=>
   rw[kD] at hp hf;rw[<-hp];simp only[Instr.lookup,Sem.run_bind,run_underlying hm,Result.andThen,hg,Sem.run_pure,hc,hf,hz,Option.map_none];cases ok<;>rfl
 | some p=>
   rw[kD] at hp hf;rw[<-hp];simp only[Instr.lookup,Sem.run_bind,run_underlying hm,Result.andThen,hg,Sem.run_pure,hc,hf,Option.map_some];cases ok<;>rfl
theorem Yy{kt mt et:TypeId}{enc:κ->Value}{eq:κ->κ->Bool}(K:TI P kt enc eq)(hm:P.underlying mt=some (.map kt et)){W:World}{g:Nat}{l:List (κ×Bool)}(h:iM W g enc l)(k:κ)(v:Bool):
 (Instr.mapUpdate mt (.map (some g)) (enc k) v).run P W= .ok () { W with heap:=W.heap.setIfInBounds g (ug enc (iK eq k v l)) }:=by
 obtain⟨hg,hs,hf,hc⟩:=zK4 (MapKept.run_getObj_map (P:=P) (show W.heap[g]?=some (.map (mE enc l 0).toArray l.length) from h)) (λo=>MapKept.run_setObj_map (P:=P) o (show W.heap[g]?=some (.map (mE enc l 0).toArray l.length) from h)) (K.find l k W) (K.chk false k W)
 cases kD:pos eq k l 0 with
 | none=>
   rw[kD] at hf;obtain⟨h1,h2⟩:=WO enc eq k v l 0 kD;simp only[Instr.mapUpdate,Sem.run_bind,run_underlying hm,Result.andThen,hg,hc,hf,Option.map_none,hs];unfold ug;rw[h1,h2,d9];simp
 | some p=>
   obtain⟨j,u⟩:=p;rw[kD] at hf;obtain⟨h1,h2,h3,⟨e,he,hek⟩,h5⟩:=WQ enc eq K.inj k v l 0 j u kD;rw[Nat.sub_zero] at he h5;have IV:((((mE enc l 0).toArray[j]?).map (·.key)).getD (enc k))=enc k:=(by simp[he,hek]);simp only[Instr.mapUpdate,Sem.run_bind,run_underlying hm,Result.andThen,hg,Sem.run_pure,hc,hf,Option.map_some,hs,IV,Instr.keyThatStays,K.same,if_true];unfold ug;rw[h3,h5];simp
theorem iM.keep{w w':World}{g:Nat}{enc:κ->Value}{l:List (κ×Bool)}(h:iM w g enc l)(hb:w'.heap[g]?=w.heap[g]?):iM w' g enc l:=hb.trans h
theorem iM.below{w w':World}{g:Nat}{enc:κ->Value}{l:List (κ×Bool)}(h:iM w g enc l)(hb:Below w w w'):iM w' g enc l:=ae h hb
theorem iM.lt{w:World}{g:Nat}{enc:κ->Value}{l:List (κ×Bool)}(h:iM w g enc l):g<w:=aC h
theorem iM.put{W:World}{g:Nat}{enc:κ->Value}{l l':List (κ×Bool)}(h:iM W g enc l):∃W',{ W with heap:=W.heap.setIfInBounds g (ug enc l') }=W'/\iM W' g enc l'/\(∀b,b≠g->W'.heap[b]?=W.heap[b]?)/\W'.heap.size=W.heap.size/\Kept (· =g) W W':=by
 have aN:=h.lt;refine⟨_,rfl,by unfold iM;simp[aN],λb hb=>by simp[Ne.symm hb],by simp,rfl,rfl,rfl,by simp,λb _ hb=>by simp[Ne.symm hb]⟩
end
theorem Yz(a b:ByteArray):(a==b)=eqS a b:=by
 rw[m9,MapKept.bytes_beq,iV]
def lg(s:ByteArray):Value:=s
def tq(x:Nm):Value:=.agg #[x.1,x.2]
theorem Us(a:ByteArray):∀(l:List (ByteArray×Bool)) (i:Nat),Instr.findNow .string a (mE lg l i) i=some ((pos eqS a l i).map λp=>(p.1,.bool p.2))
 | [],_=>rfl
 | (b,v)::l,i=>by
   rw[mE,Instr.findNow,lg,Instr.sameNow,Yz,pos];cases h:eqS a b
   ·simp only[b6,if_false];exact Us a l (i+1)
   rfl
theorem NL(a b:ByteArray):eqS a b=eqS b a:=by
 rw[m9,iV,iV];exact eq_comm
theorem acd:TI prog 9 lg eqS where
 chk e k W:=MapKept.run_checkKey (d:=.string) zS2 (by simp[lg,MapKept.IsKey]) e 9999
 find l k W:=MapKept.run_findKey (d:=.string) zS2 (Us k l 0)
 inj a b h:=iV.1 h
 same k:=by simp[lg,Instr.sameBits,MapKept.bytes_beq]
theorem ace(x y:Nm)(W:World):(Op.equal 23 (tq x) (tq y)).run prog W= .ok (eqN x y) W:=by
 have h:=nO x.1 x.2 y.1 y.2 W;rw[run_eql_struct] at h;unfold Op.equal Op.maxDepth tq
 cases hr:(Op.equalIn 10000 23 (.agg #[x.1,x.2]) (.agg #[y.1,y.2])).run prog W with
 | ok b w'=>
   rw[hr] at h;simp only[Result.andThen,Result.ok.injEq,Value.bool.injEq] at h;rw[h.1,h.2];rfl
 | halt e w'=>
   rw[hr] at h;simp[Result.andThen] at h
theorem axM:∃fs,prog.underlying 23=some (.struct fs):=⟨_,underlying23⟩
theorem O7(x:Nm)(W:World):∀(l:List (Nm×Bool)) (i:Nat),(Instr.findAsking 23 (tq x) (mE tq l i) i).run prog W= .ok ((pos eqN x l i).map λp=>(p.1,.bool p.2)) W
 | [],_=>rfl
 | (y,v)::l,i=>by
   rw[mE,Instr.findAsking,pos];simp only[Sem.run_bind,ace,Result.andThen];cases eqN x y
   ·simp only[b6,if_false];exact O7 x W l (i+1)
   rfl
theorem ahj(x:Nm)(W:World)(l:List (Nm×Bool)):(Instr.findKey 23 (tq x) (mE tq l 0)).run prog W= .ok ((pos eqN x l 0).map λp=>(p.1,.bool p.2)) W:=by
 have h:=O7 x W l 0;obtain⟨fs,hfs⟩:=axM
 cases l with
 | nil=>exact MapKept.run_findKey hfs rfl
 | cons p l=>
   obtain⟨y,v⟩:=p;rw[mE] at h ⊢;simp only[Instr.findKey,Sem.run_bind,run_underlying hfs,Result.andThen,Instr.findNow,Instr.sameNow];exact h
theorem ahk:TI prog 23 tq eqN where
 chk e k W:=by
  show _=_;cases e<;>kernel_rfl
 find l k W:=ahj k W l
 inj a b h:=by
  unfold eqN at h;rw[Bool.and_eq_true,iV,iV] at h;exact Prod.ext h.1 h.2
 same k:=by simp[tq,Instr.sameBits,MapKept.bytes_beq]
section
variable {κ β:Type} {P:Program}
def gE(enc:κ->Value)(val:β->Value):List (κ×β)->Nat->List MapEntry
 | [],_=>[]
 | (k,v)::l,i=>⟨enc k,val v,i⟩::gE enc val l (i+1)
def xR(eq:κ->κ->Bool)(k:κ):List (κ×β)->Nat->Option (Nat×β)
 | [],_=>none
 | (k',v)::l,i=>if eq k k' then some (i,v) else xR eq k l (i+1)
def dP(eq:κ->κ->Bool)(k:κ):List (κ×β)->Option β
 | []=>none
 | (k',v)::l=>if eq k k' then some v else dP eq k l
def jh(eq:κ->κ->Bool)(k:κ)(v:β):List (κ×β)->List (κ×β)
 | []=>[(k,v)]
 | (k',v')::l=>if eq k k' then (k,v)::l else (k',v')::jh eq k v l
def Ag(enc:κ->Value)(val:β->Value)(l:List (κ×β)):Obj:=.map (gE enc val l 0).toArray l.length
def gQ(w:World)(g:Nat)(enc:κ->Value)(val:β->Value)(l:List (κ×β)):Prop:=w.heap[g]?=some (Ag enc val l)
structure NM (P:Program) (kt:TypeId) (enc:κ->Value) (eq:κ->κ->Bool):Prop where
 chk:∀e k W,(Instr.checkKey e 10000 kt (enc k)).run P W= .ok () W
 find:∀(β:Type) (val:β->Value) (l:List (κ×β)) k W,(Instr.findKey kt (enc k) (gE enc val l 0)).run P W= .ok ((xR eq k l 0).map λp=>(p.1,val p.2)) W
 inj:∀a b,eq a b=true->a=b
 same:∀k,Instr.sameBits 10000 (enc k) (enc k)=true
variable {enc:κ->Value} {val:β->Value} {eq:κ->κ->Bool}
theorem ZF(k:κ):∀(l:List (κ×β)) (i:Nat),(xR eq k l i).map (·.2)=dP eq k l
 | [],_=>rfl
 | (k',v)::l,i=>by
   rw[xR,dP]
   split
   ·rfl
   exact ZF k l (i+1)
theorem WR(k:κ)(v:β):∀(l:List (κ×β)) (i:Nat),xR eq k l i=none->gE enc val (jh eq k v l) i=gE enc val l i++[⟨enc k,val v,i+l.length⟩]/\(jh eq k v l).length=l.length+1
 | [],i,_=>by simp[jh,gE]
 | (k',v')::l,i,h=>by
   rw[xR] at h
   split at h
   ·cases h
   rename_i hk;have ih:=WR k v l (i+1) h;rw[jh,j5 hk,gE,gE,ih.1,z9,z9,ih.2];exact⟨by rw[show i+1+l.length=i+(l.length+1) by omega];rfl,rfl⟩
theorem WS(hi:∀a b,eq a b=true->a=b)(k:κ)(v:β):∀(l:List (κ×β)) (i j:Nat) (u:β),xR eq k l i=some (j,u)->
 i<=j/\j<i+l.length/\(jh eq k v l).length=l.length/\(∃e,(gE enc val l i)[j - i]?=some e/\e.key=enc k)/\gE enc val (jh eq k v l) i=(gE enc val l i).modify (j - i) λe=>{ e with key:=enc k,val:=val v }
 | [],i,j,u,h=>by simp[xR] at h
 | (k',v')::l,i,j,u,h=>by
   rw[xR] at h
   split at h
   ·rename_i hk;obtain⟨rfl,rfl⟩:i=j/\v'=u:=(by simpa using h);obtain rfl:=hi _ _ hk;rw[jh,j6 hk,Nat.sub_self];exact⟨zR _,zP,rfl,⟨_,rfl,rfl⟩,by simp[gE]⟩
   rename_i hk;obtain⟨h1,h2,h3,⟨e,he,hek⟩,h5⟩:=WS hi k v l (i+1) j u h;rw[jh,j5 hk];have e1:j - i=(j - (i+1))+1:=zO;refine⟨zO,by rw[z9];omega,by rw[z9,z9,h3],⟨e,by rw[e1,gE];simpa using he,hek⟩,?_⟩;rw[gE,gE,h5,e1];rfl
theorem qX{kt mt et:TypeId}{zv:Value}(K:NM P kt enc eq)(hm:P.underlying mt=some (.map kt et))(hz:∀W,(zeroValue et).run P W= .ok zv W){W:World}{g:Nat}{l:List (κ×β)}(h:gQ W g enc val l)(k:κ)(ok:Bool):
 (Instr.lookup mt (.map (some g)) (enc k) ok).run P W= .ok (if ok then .tuple #[((dP eq k l).map val).getD zv,(dP eq k l).isSome] else ((dP eq k l).map val).getD zv) W:=by
 obtain⟨hg,hp,hf,hc⟩:=zK4 (MapKept.run_getObj_map (P:=P) (show W.heap[g]?=some (.map (gE enc val l 0).toArray l.length) from h)) (ZF (eq:=eq) k l 0) (K.find β val l k W) (K.chk (gE enc val l 0).toArray.isEmpty k W)
 cases kD:xR eq k l 0 with
 | none=>
   rw[kD] at hp hf;rw[<-hp];simp only[Instr.lookup,Sem.run_bind,run_underlying hm,Result.andThen,hg,Sem.run_pure,hc,hf,hz,Option.map_none];cases ok<;>rfl
 | some p=>
   rw[kD] at hp hf;rw[<-hp];simp only[Instr.lookup,Sem.run_bind,run_underlying hm,Result.andThen,hg,Sem.run_pure,hc,hf,Option.map_some];cases ok<;>rfl
theorem ED{kt mt et:TypeId}(K:NM P kt enc eq)(hm:P.underlying mt=some (.map kt et)){W:World}{g:Nat}{l:List (κ×β)}(h:gQ W g enc val l)(k:κ)(v:β):
 (Instr.mapUpdate mt (.map (some g)) (enc k) (val v)).run P W= .ok () { W with heap:=W.heap.setIfInBounds g (Ag enc val (jh eq k v l)) }:=by
 obtain⟨hg,hs,hf,hc⟩:=zK4 (MapKept.run_getObj_map (P:=P) (show W.heap[g]?=some (.map (gE enc val l 0).toArray l.length) from h)) (λo=>MapKept.run_setObj_map (P:=P) o (show W.heap[g]?=some (.map (gE enc val l 0).toArray l.length) from h)) (K.find β val l k W) (K.chk false k W)
 cases kD:xR eq k l 0 with
 | none=>
   rw[kD] at hf;obtain⟨h1,h2⟩:=WR (enc:=enc) (val:=val) (eq:=eq) k v l 0 kD;simp only[Instr.mapUpdate,Sem.run_bind,run_underlying hm,Result.andThen,hg,hc,hf,Option.map_none,hs];unfold Ag;rw[h1,h2,d9];simp
 | some p=>
   obtain⟨j,u⟩:=p;rw[kD] at hf;obtain⟨h1,h2,h3,⟨e,he,hek⟩,h5⟩:=WS (enc:=enc) (val:=val) (eq:=eq) K.inj k v l 0 j u kD;rw[Nat.sub_zero] at he h5;have IV:((((gE enc val l 0).toArray[j]?).map (·.key)).getD (enc k))=enc k:=(by simp[he,hek]);simp only[Instr.mapUpdate,Sem.run_bind,run_underlying hm,Result.andThen,hg,Sem.run_pure,hc,hf,Option.map_some,hs,IV,Instr.keyThatStays,K.same,if_true];unfold Ag;rw[h3,h5];simp
theorem gQ.keep{w w':World}{g:Nat}{l:List (κ×β)}(h:gQ w g enc val l)(hb:w'.heap[g]?=w.heap[g]?):gQ w' g enc val l:=hb.trans h
theorem gQ.below{w w':World}{g:Nat}{l:List (κ×β)}(h:gQ w g enc val l)(hb:Bw w w'):gQ w' g enc val l:=ae h hb
theorem gQ.lt{w:World}{g:Nat}{l:List (κ×β)}(h:gQ w g enc val l):g<w:=aC h
theorem gQ.put{W:World}{g:Nat}{l l':List (κ×β)}(h:gQ W g enc val l):∃W',{ W with heap:=W.heap.setIfInBounds g (Ag enc val l') }=W'/\gQ W' g enc val l'/\(∀b,b≠g->W'.heap[b]?=W.heap[b]?)/\W'.heap.size=W.heap.size/\Kept (· =g) W W':=by
 have aN:=h.lt;refine⟨_,rfl,by unfold gQ;simp[aN],λb hb=>by simp[Ne.symm hb],zP,rfl,rfl,rfl,zP,λb _ hb=>by simp[Ne.symm hb]⟩
end
def vM(k:Int):Value:=k
def jL(a b:Int):Bool:=a==b
theorem Ut{β:Type}{val:β->Value}(a:Int):∀(l:List (Int×β)) (i:Nat),Instr.findNow (.int .i64) a (gE vM val l i) i=some ((xR jL a l i).map λp=>(p.1,val p.2))
 | [],_=>rfl
 | (b,v)::l,i=>by
   rw[gE,Instr.findNow,vM,Instr.sameNow,xR];cases h:jL a b
   ·simp only[jL] at h;simp only[h,b6,if_false];exact Ut a l (i+1)
   simp only[jL] at h;simp only[h,if_true];rfl
theorem qJ:NM prog 3 vM jL where
 chk e k W:=MapKept.run_checkKey (d:=.int .i64) zK (by simp[vM,MapKept.IsKey]) e 9999
 find β val l k W:=MapKept.run_findKey (d:=.int .i64) zK (Ut k l 0)
 inj a b h:=by simpa[jL] using h
 same k:=by simp[vM,Instr.sameBits]
def ixN:List Nm->ByteArray->ByteArray->Nat->Int
 | [],_,_,_=>-1
 | x::l,a,b,i=>if eqS a x.1&&eqS b x.2 then i else ixN l a b (i+1)
theorem acP{l:List Nm}{x y b:ByteArray}(hx:l[i]?=some (x,y)):ixN (l.drop i) a b i=if eqS a x&&eqS b y then (i:Int) else ixN (l.drop (i+1)) a b (i+1):=by
 obtain⟨h1,h2⟩:=z4.1 hx;rw[nZ h1,ixN,h2]
theorem arB(l:List Nm)(a b:ByteArray):∀i,decide (0<=ixN l a b i)=ru l a b:=by
 induction l with
 | nil=>intro i;simp[ixN,ru]
 | cons x l ih=>
   intro i;rw[ixN,ru,NL a,NL b];cases h:(eqS x.1 a&&eqS x.2 b)
   ·simpa using ih (i+1)
   simp
theorem akf(a b:ByteArray)(l:List Nm)(A:Option Addr)(n c:Nat)(w:World)(F:Nat->Prop)(bQ:aY w F 2 dK l A n)(hn:n<6000000000000):
 Rt 79 #[(A,n,c),.agg #[a,b]] w (ixN l a b 0):=by
 have aI:=bQ.here Iu;obtain⟨w1,bI,hblk,bY,ai⟩:=af w (Zc #[a,b] 23);have HB:=zH hblk;clear hblk bQ;go_enter func79,ntmps79;go_wp2_with fail;have HW:=zH bI;clear bI
 go_loopw [5,8] (λs5 si wr=>∃i:Nat,i<=n/\si= i/\Hid (ixN l a b 0=ixN (l.drop i) a b i)/\Bw w1 wr)
  (λ_ si _=>n - (intOf si).toNat)
 case atStart=>exact⟨0,zO,rfl,zH rfl,j9 _ _⟩
 obtain⟨i,hi,rfl,HL,dU⟩:=hrel;obtain⟨n0,n1⟩:=dw (ae HB dU);have aH:=ai.seq dU;by_cases aN:i<n
 ·obtain⟨b',off,x,y,HX,p0,p1,dO⟩:=(aI.below aH).name aN c;have hd:=zT1 (i<n);obtain⟨v,hv⟩:=zF ((eqS a x&&eqS b y));have hq:∀W,(binOp .eql 23 (.agg #[a,b]) (.agg #[x,y])).run prog W= .ok v W:=λW=>(by rw[nO,hv]);have HV:=zH hv;clear hv;go_wp2_with fail;cases v
  ·go_quiet (fail)
   go_wp2_with fail;go_roundw
   case rel=>exact⟨i+1,zO,by go_num,zH (by rw[HL.out,acP HX,HV.out];rfl),dU.drewN _⟩
   simp[intOf];omega
  go_quiet (fail)
  go_wp2_with fail;go_ret;exact⟨iU (by rw[HL.out,acP HX,HV.out];rfl),aH.drewN _⟩
 have hd:=zT2 (i<n);have zU:l.drop i=[]:=z14 (by have:=aI.len;omega);have HE:=zH zU;clear zU;go_wp2_with fail;go_ret;exact⟨iU (by rw[HL.out,HE.out];rfl),aH⟩
theorem J7(a b:ByteArray)(l:List Nm)(A:Option Addr)(n c:Nat)(w:World)(F:Nat->Prop)(bQ:aY w F 2 dK l A n)(hn:n<6000000000000):
 Rt 129 #[(A,n,c),.agg #[a,b]] w (ru l a b):=by
 have aI:=bQ.here Iu;obtain⟨w1,bI,hblk,bY,ai⟩:=af w (Zc #[a,b] 23);obtain⟨n0,n1⟩:=dw hblk;obtain⟨r,hr⟩:=zF (ixN l a b 0);have HR:=zH hr;have HD:Hid (decide (0<=r)=ru l a b):=zH (by rw[<-hr];exact arB l a b 0);have HI:Hid (Rt 79 #[(A,n,c),.agg #[a,b]] w1 r):=zH (by rw[<-hr];exact akf a b l A n c w1 _ (aI.below ai) hn);clear hr hblk bQ;go_enter func129,ntmps129;go_wp2_with fail;refine HI.mono ?_;rintro e w2 ⟨rfl,ag⟩;go_wp2_with fail;go_ret;exact⟨aK HD,ai.seq ag⟩
theorem Xp{ops:Array Oper}{rest:List Oper}{o:Oper}{a:Act}{Q:Exit->Act->World->Prop}(uO:o.guard=none)(m x v:Operand)(mt:TypeId)(uQ:o.op= .mapUpdate mt m x v)
    (K:TI P kt enc eq) (hm:P.underlying mt=some (.map kt et)) (g:Nat) (l:List (κ×Bool)) (hs:a.eval m= .map (some g)) (h:iM w g enc l)
 (k:κ) (hk:a.eval x=enc k) (b:Bool) (hv:a.eval v= b)
 (hK:∀w',iM w' g enc (iK eq k b l)->(∀b,b≠g->w'.heap[b]?=w.heap[b]?)->w'.heap.size=w.heap.size->Kept (· =g) w w'->wpList P ops Q rest (a.put o.dst undef) w'):wpList P ops Q (o::rest) a w:=by
 refine wpList_plain uO λK' hK'=>?_;obtain⟨w',hw,h1,h2,h3,h4⟩:=h.put (l':=iK eq k b l);have bG:=Yy K hm h k b;rw[hw] at bG;unfold Oper.wp;simp[execOp,uQ,hs,hk,hv,bG,Result.andThen];exact hK' _ _ (hK w' h1 h2 h3 h4)
def qQ(w:World)(g:Nat)(o:Obj):World:={ w with heap:=w.heap.setIfInBounds g o }
theorem J8(w:World)(g:Nat)(o:Obj)(i:Nat)(h:b≠g):(qQ w g o).cell? (b,i)=w.cell? (b,i):=
 ZS (w:=w) (a:=(b,i)) (by simp[qQ,Ne.symm h])
theorem aki(hr:∀k,eq k k=true)(k:κ)(v:Bool)(l:List (κ×Bool)):iK eq k v (iK eq k v l)=iK eq k v l:=by
 induction l with
 | nil=>rw[iK,iK,j6 (hr k)]
 | cons p l ih=>
   obtain⟨k',v'⟩:=p;rw[iK]
   split
   ·rw[iK,j6 (hr k)]
   rename_i h;rw[iK,j5 h,ih]
def qp(w:World)(g:Nat)(enc:κ->Value)(l l':List (κ×Bool)):Prop:=iM w g enc l\/iM w g enc l'
theorem qp.set{l':List (κ×Bool)}(h:qp w g enc l l'):iM (qQ w g (ug enc l')) g enc l':=by
 have aN:g<w:=by rcases h with h | h<;>exact h.lt
 unfold iM qQ;simp[aN]
theorem iM.Rz{g':Nat}(h:iM w g enc l)(o:Obj)(dD:g≠g'):iM (qQ w g' o) g enc l:=by
 unfold iM qQ at*;simp[Ne.symm dD];exact h
theorem qp.put{mt:TypeId}(K:TI P kt enc eq)(hr:∀k,eq k k=true)(hm:P.underlying mt=some (.map kt et)){W:World}{k:κ}(h:qp W g enc l (iK eq k v l)):
 (Instr.mapUpdate mt (.map (some g)) (enc k) v).run P W= .ok () (qQ W g (ug enc (iK eq k v l))):=by
 rcases h with h | h
 ·exact Yy K hm h k v
 have:=Yy K hm h k v;rw[aki hr] at this;exact this
theorem aak(w:World)(g:Nat)(o:Obj):Kept (· =g) w (qQ w g o):=⟨rfl,rfl,rfl,by simp[qQ],λb _ hb=>by simp[qQ,Ne.symm hb]⟩
theorem amX(x:Nm):eqN x x=true:=by unfold eqN;rw[z7,iV,iV];exact⟨rfl,rfl⟩
theorem amY(x:ByteArray):eqS x x=true:=iV.2 rfl
abbrev oI:=List (Nm×Bool)×List (ByteArray×Bool)
mutual
def J9:aT->oI->oI
 | .mk k ns nl s ex ar,m=>kT ar (kT ex (if k=1 then (iK eqN (ns,nl) true m.1,iK eqS ns true m.2) else if k=2 then (m.1,iK eqS s true m.2) else m))
def kT:List aT->oI->oI
 | [],m=>m
 | c::l,m=>kT l (J9 c m)
end
theorem Oc{l:List aT}(m:oI)(h:l[i]?=ch):kT (l.drop i) m=kT (l.drop (i+1)) (J9 ch m):=by
 obtain⟨hi,hc⟩:=z4.1 h;rw[nZ hi,hc,kT]
def iI(w:World)(g1 g2:Nat)(m:oI):Prop:=iM w g1 tq m.1/\iM w g2 lg m.2
def EZ(w:World)(bm bw g1 g2:Nat):Prop:=w.heap[bm]?=Zc #[.map (some g1),.map (some g2)] 248/\w.heap[bw]?=Zc #[.func (.func 235) #[] #[(bm,0),(bw,0)]] 206
theorem EZ.kept{bm bw:Nat}{m:oI}(h:EZ w bm bw g1 g2)(hm:iI w g1 g2 m)(hk:Kept (λb=>b=g1\/b=g2) w w'):EZ w' bm bw g1 g2:=by
 have n1:bm≠g1/\bm≠g2/\bw≠g1/\bw≠g2:=by
  refine⟨?_,?_,?_,?_⟩
  ·intro e;have:=h.1;rw[e,show w.heap[g1]?=_ from hm.1] at this;cases this
  ·intro e;have:=h.1;rw[e,show w.heap[g2]?=_ from hm.2] at this;cases this
  ·intro e;have:=h.2;rw[e,show w.heap[g1]?=_ from hm.1] at this;cases this
  intro e;have:=h.2;rw[e,show w.heap[g2]?=_ from hm.2] at this;cases this
 exact⟨bF h.1 hk (by intro e;rcases e with e | e;exact n1.1 e;exact n1.2.1 e),bF h.2 hk (by intro e;rcases e with e | e;exact n1.2.2.1 e;exact n1.2.2.2 e)⟩
theorem pV{cs:Array Value}{fr:Nat×Nat}(h:w.heap[b]?=some (.cells cs t fr))(hm:iM w g enc l):b≠g:=by
 intro e;rw[e,show w.heap[g]?=_ from hm] at h;cases h
theorem amZ(h:Kept (· =g1) w w'):Kept (λb=>b=g1\/b=g2) w w':=⟨h.os,h.tape,h.output,h.size,λk hk hm=>h.block k hk (λe=>hm (.inl e))⟩
theorem acS(h:Kept (· =g2) w w'):Kept (λb=>b=g1\/b=g2) w w':=⟨h.os,h.tape,h.output,h.size,λk hk hm=>h.block k hk (λe=>hm (.inr e))⟩
theorem acT(bm bw g1 g2:Nat)(c:aT):∀(cs:List Value) (w:World) (B:Nat) (m:oI),dA w (· <B) c cs->B<=g1->B<=g2->g1≠g2->EZ w bm bw g1 g2->iI w g1 g2 m->
 Cl 235 #[.agg cs.toArray,(bm,0),(bw,0)] w λe w'=>e= .returned (.tuple #[])/\iI w' g1 g2 (J9 c m)/\Kept (λb=>b=g1\/b=g2) w w':=by
 induction c using aT.ind with
 | _ k ns nl s ex ar Jv iha=>
   intro cs w B m hr0 hB1 hB2 dD Bv BX;obtain⟨A,n,c,A',n',c',rfl,hl,zS,h1,h2⟩:=hr0.form;obtain⟨O0,HA0⟩:=zJ2 Jv iha;clear Jv iha hr0;obtain⟨w1,bI,hblk,bY,ai⟩:=af w (Zc #[k,ns,nl,s,(A,n,c),(A',n',c')] 26);have lV:=BX.1.lt;have qo:=BX.2.lt;have GH:Below B w w1:=ai.mono zO;have ahC:EZ w1 bm bw g1 g2:=⟨ae Bv.1 ai,ae Bv.2 ai⟩;have ahD:iI w1 g1 g2 m:=⟨BX.1.below ai,BX.2.below ai⟩;obtain⟨q0,q1,q2,q3,q4,q5⟩:=gG hblk;obtain⟨a0,a1⟩:=dw ahC.1;obtain⟨m1,iY⟩:=zF ((if k=1 then (iK eqN (ns,nl) true m.1,iK eqS ns true m.2) else if k=2 then (m.1,iK eqS s true m.2) else m));have HC:Hid (J9 (.mk k ns nl s ex ar) m=kT ar (kT ex m1)):=zH (by rw[J9,iY]);obtain⟨yY,HB,vJ,G7,am0,am1⟩:=zK6 (zH iY) (zH hblk) (zH ahC) (zH ahD) (pV hblk ahD.1) (pV hblk ahD.2);clear iY hblk Bv BX ahC ahD;go_enter func235,ntmps235;go_upto_block 0 with fail;have HW:=zH bI;clear bI
   go_cut [] (λwc=>iI wc g1 g2 m1/\Kept (λb=>b=g1\/b=g2) w1 wc)
   case first=>
    rcases (show (k==1)=true\/((k==1)=false/\(k==2)=true)\/((k==1)=false/\(k==2)=false) by cases (k==1)<;>cases (k==2)<;>simp) with hk | ⟨hk,dm⟩ | ⟨hk,dm⟩
    ·go_wp2_with fail;obtain⟨l1,qw⟩:=zF (iK eqN (ns,nl) true m.1);obtain⟨l2,lW⟩:=zF (iK eqS ns true m.2);have e1:m1=(l1,l2):=(by rw[<-yY.out,j6 (by simpa using hk),qw,lW]);have E1:=zH e1;clear e1
     have u1:∀W,qp W g1 tq m.1 l1->(Instr.mapUpdate 246 (.map (some g1)) (.agg #[ns,nl]) true).run prog W= .ok () (qQ W g1 (ug tq l1)):=by
      intro W h;rw[<-qw] at h ⊢;exact h.put (et:=4) ahk amX zK
     have u2:∀W,qp W g2 lg m.2 l2->(Instr.mapUpdate 115 (.map (some g2)) ns true).run prog W= .ok () (qQ W g2 (ug lg l2)):=by
      intro W h;rw[<-lW] at h ⊢;exact h.put (et:=4) acd amY zK
     clear qw lW;have k1:∀W i,(qQ W g1 (ug tq l1)).cell? ⟨w,i,none⟩=W.cell? ⟨w,i,none⟩:=λW i=>J8 W g1 _ i am0;have k2:∀W i,(qQ W g2 (ug lg l2)).cell? ⟨w,i,none⟩=W.cell? ⟨w,i,none⟩:=λW i=>J8 W g2 _ i am1;have nb1:=pV vJ.1 G7.1;have nb2:=pV vJ.1 G7.2;have k3:∀W i,(qQ W g1 (ug tq l1)).cell? ⟨bm,i,none⟩=W.cell? ⟨bm,i,none⟩:=λW i=>J8 W g1 _ i nb1;have k4:∀W i,(qQ W g2 (ug lg l2)).cell? ⟨bm,i,none⟩=W.cell? ⟨bm,i,none⟩:=λW i=>J8 W g2 _ i nb2;have o1:∀W,qp W g1 tq m.1 l1->qp (qQ W g1 (ug tq l1)) g1 tq m.1 l1:=λW h=>.inr h.set;have o2:∀W,qp W g2 lg m.2 l2->qp (qQ W g2 (ug lg l2)) g2 lg m.2 l2:=λW h=>.inr h.set;have o3:∀W,qp W g1 tq m.1 l1->qp (qQ W g2 (ug lg l2)) g1 tq m.1 l1:=λW h=>h.imp (λh=>h.Rz _ dD) (λh=>h.Rz _ dD);have o4:∀W,qp W g2 lg m.2 l2->qp (qQ W g1 (ug tq l1)) g2 lg m.2 l2:=λW h=>h.imp (λh=>h.Rz _ dD.symm) (λh=>h.Rz _ dD.symm);have s1:qp w1 g1 tq m.1 l1:=.inl G7.1;have s2:qp w1 g2 lg m.2 l2:=.inl G7.2;have d1:qp w1.drew g1 tq m.1 l1:=.inl G7.1;have d2:qp w1.drew g2 lg m.2 l2:=.inl G7.2
     go_region_held3 (λw'=>w'.cell? (w,1)=ns/\w'.cell? (w,2)=nl/\w'.cell? bm=some (.map (some g1))/\w'.cell? (bm,1)=some (.map (some g2))/\qp w' g1 tq m.1 l1/\qp w' g2 lg m.2 l2) (go_keep) (fail)
     have f1:iI (qQ (qQ w1.drew g1 (ug tq l1)) g2 (ug lg l2)) g1 g2 (l1,l2):=⟨d1.set.Rz _ dD,(o4 _ d2).set⟩;have f2:Kept (λb=>b=g1\/b=g2) w1 (qQ (qQ w1.drew g1 (ug tq l1)) g2 (ug lg l2)):=((Kept.refl _ w1).drew.trans (amZ (aak _ _ _))).trans (acS (aak _ _ _));obtain⟨F1,F2⟩:=zJ2 f1 f2;clear f1 f2 u1 u2 k1 k2 k3 k4 o1 o2 o3 o4 s1 s2 d1 d2;go_wp2_with fail;go_meet;exact⟨by rw[E1.out];exact F1,F2.out⟩
    ·have e1:m1=(m.1,iK eqS s true m.2):=(by rw[<-yY.out,j5 (by simpa using hk),j6 (by simpa using dm)]);have E1:=zH e1;clear e1
     go_wp2_with (first
      | (at_mapUpdate;refine Xp rfl (.tmp 24) (.tmp 26) (.const true) 115 rfl (et:=4) acd zK g2 m.2 rfl G7.2 s rfl true rfl ?_
         intro w2 h2a h2b h2c h2d)
      | fail)
     go_meet;exact⟨by rw[E1.out];exact⟨G7.1.keep (h2b g1 dD),h2a⟩,acS h2d⟩
    have e1:m1=m:=(by rw[<-yY.out,j5 (by simpa using hk),j5 (by simpa using dm)]);have E1:=zH e1;clear e1;go_wp2_with fail;go_meet;exact⟨by rw[E1.out];exact G7,Kept.refl _ _⟩
   obtain⟨UH,GN⟩:=hcut;obtain⟨HMC,HKC⟩:=zJ2 UH GN;have TB:=bF HB GN (by rintro (e | e);exact am0 e;exact am1 e);clear q0 q1 q2 q3 q4 q5 a0 a1 UH;obtain⟨q0,q1,q2,q3,q4,q5⟩:=gG TB;clear TB q0 q1 q2 q3 q5;go_wp2_with fail
   go_loopw [30] (λsi wr=>∃i:Nat,i<=n/\si= i/\∃sy,Hid (kT ex m1=kT (ex.drop i) sy)/\iI wr g1 g2 sy/\Kept (λb=>b=g1\/b=g2) w1 wr)
    (λsi _=>n - (intOf si).toNat)
   case atStart=>exact⟨0,zO,rfl,_,zH rfl,HMC,HKC⟩
   obtain⟨i,hi,rfl,sy,HL,BX,eF⟩:=hrel;have aH:Below B w wr:=GH.trans (eF.below zO (by intro k hk e;omega));have Bv:=vJ.kept G7 eF;obtain⟨a2,Lm,zi,Bz⟩:=zK4 (aO Bv.2) (zH Bv) (zH BX) eF.size;clear Bv BX;by_cases aN:i<n
   ·obtain⟨b,off,ch,v0,v1,v2,v3,v4,v5,HX,kP,p0,p1,p2,p3,p4,p5,dO⟩:=h1.LU aH aN c;have hd:=zT1 (i<n);obtain⟨k0,n0,l0,s0,A0,m0,d0,A1,m1,d1,rfl,rfl,rfl,rfl,rfl,rfl⟩:=kP.shape;obtain⟨w5,pq,S5,VC,bg⟩:=af wr (Zc #[k0,n0,l0,s0,(A0,m0,d0),(A1,m1,d1)] 26);have Jf:=kP.below (bg.mono zO);have RD:iI w5 g1 g2 sy:=⟨zi.1.below bg,zi.2.below bg⟩;have Dp:EZ w5 bm bw g1 g2:=⟨ae Lm.1 bg,ae Lm.2 bg⟩;have a5:=aO Dp.2;obtain⟨r0,r1,r2,r3,r4,r5⟩:=gG S5;obtain⟨acU,VD,acV⟩:=zJ3 Jf RD Dp;clear S5 Jf RD Dp kP;go_wp2_with fail;refine (O0 ch (qN HX) _ _ B sy acU hB1 hB2 dD acV VD).mono ?_;rintro e w2 ⟨rfl,nJ,dm⟩;go_wp2_with fail;go_roundw
    case rel=>exact⟨i+1,zO,by go_num,_,zH (by rw[HL.out,Oc _ HX]),nJ,(eF.trans (Qh bg)).trans dm⟩
    simp[intOf];omega
   have hd:=zT2 (i<n);have zU:ex.drop i=[]:=z14 (by have:=h1.len;omega);have HEX:Hid (kT ex m1=sy):=zH (by rw[HL.out,zU,kT]);clear zU;have pW:=zH eF;have TB:=bF HB eF (by rintro (e | e);exact am0 e;exact am1 e);clear q4;obtain⟨q0,q1,q2,q3,q4,q5⟩:=gG TB;clear TB q0 q1 q2 q3 q4;obtain⟨sy0,Xq⟩:=zE sy;rw[<-Xq] at zi HEX;have JU:=zi;clear Xq;go_wp2_with fail;clear zi Lm aH Bz HL
   go_loopw [41] (λsi wr=>∃i:Nat,i<=n'/\si= i/\∃sy,Hid (kT ar sy0=kT (ar.drop i) sy)/\iI wr g1 g2 sy/\Kept (λb=>b=g1\/b=g2) w1 wr)
    (λsi _=>n' - (intOf si).toNat)
   case atStart=>exact⟨0,zO,rfl,_,zH rfl,JU,pW⟩
   obtain⟨i,hi,rfl,sy,HL,BX,eF⟩:=hrel;have aH:Below B w wr:=GH.trans (eF.below zO (by intro k hk e;omega));have Bv:=vJ.kept G7 eF;obtain⟨a2,Lm,zi,Bz⟩:=zK4 (aO Bv.2) (zH Bv) (zH BX) eF.size;clear Bv BX;by_cases aN:i<n'
   ·obtain⟨b,off,ch,v0,v1,v2,v3,v4,v5,HX,kP,p0,p1,p2,p3,p4,p5,dO⟩:=h2.LU aH aN c';have hd:=zT1 (i<n');obtain⟨k0,n0,l0,s0,A0,m0,d0,A1,m1,d1,rfl,rfl,rfl,rfl,rfl,rfl⟩:=kP.shape;obtain⟨w5,pq,S5,VC,bg⟩:=af wr (Zc #[k0,n0,l0,s0,(A0,m0,d0),(A1,m1,d1)] 26);have Jf:=kP.below (bg.mono zO);have RD:iI w5 g1 g2 sy:=⟨zi.1.below bg,zi.2.below bg⟩;have Dp:EZ w5 bm bw g1 g2:=⟨ae Lm.1 bg,ae Lm.2 bg⟩;have a5:=aO Dp.2;obtain⟨r0,r1,r2,r3,r4,r5⟩:=gG S5;obtain⟨acU,VD,acV⟩:=zJ3 Jf RD Dp;clear S5 Jf RD Dp kP;go_wp2_with fail;refine (HA0 ch (qN HX) _ _ B sy acU hB1 hB2 dD acV VD).mono ?_;rintro e w2 ⟨rfl,nJ,dm⟩;go_wp2_with fail;go_roundw
    case rel=>exact⟨i+1,zO,by go_num,_,zH (by rw[HL.out,Oc _ HX]),nJ,(eF.trans (Qh bg)).trans dm⟩
    simp[intOf];omega
   have hd:=zT2 (i<n');have zU:ar.drop i=[]:=z14 (by have:=h2.len;omega);have HEY:Hid (kT ar sy0=sy):=zH (by rw[HL.out,zU,kT]);clear zU;go_wp2_with fail
   go_end0
   exact⟨rfl,by rw[HC.out,HEX.out,HEY.out];exact zi,(Qh ai).trans eF⟩
