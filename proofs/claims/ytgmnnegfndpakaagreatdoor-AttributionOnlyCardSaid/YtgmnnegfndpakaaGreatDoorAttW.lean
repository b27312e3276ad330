import Derived.Test.YtgmnnegfndpakaaGreatDoorH35
import Derived.Test.YtgmnnegfndpakaaGreatDoorT03
set_option maxHeartbeats 20000000
set_option maxRecDepth 100000
namespace Go.Proofs.YtgmnnegfndpakaaGreatDoor
open Go.RowKit Go.Proofs.Tryz
variable{mark fin:List Nat->Bool}{i s n x t base g bc n5 c5:Nat}{nums:List Int}{d:KG}{p:aJ}{elems:List (List Nm)}{α:Type}{w W wr w':World}{e ty:TypeId}{T F:Nat->Prop}{hs:List Hdr}{v3 v4 v5:Value}{A5:Option Addr}{l:List α}{f:α->Value}
def aeu(mark:List Nat->Bool)(i:Nat)(s:List Nat):Bool:=decide (i=0)||mark s
def acs(mark:List Nat->Bool):List (List Nat)->Nat->Nat->Nat
 | [],_,_=>0
 | _,_,0=>0
 | s::l,i,k+1=>(if aeu mark i s then 1 else 0)+acs mark l (i+1) k
theorem ajo(mark:List Nat->Bool)(l:List (List Nat))(i:Nat):acs mark l i 0=0:=by cases l<;>rfl
theorem aal{s:List Nat}:aeu mark i s=true↔i=0\/mark s=true:=by
 unfold aeu;rw[Bool.or_eq_true,gy]
theorem alM:∀{l:List (List Nat)} {i:Nat} {n:Int} {k:Nat} {s:List Nat},l[k]?=s->(wR mark l i n)[k]?=some (if aeu mark (i+k) s then n+(acs mark l i k:Nat) else -1)
 | [],_,_,_,_,h=>by simp at h
 | t::l,i,n,k,s,h=>by
   rw[wR]
   cases k with
   | zero=>
     obtain rfl:t=s:=(by simpa using h);rw[Qf];by_cases hk:i=0\/mark t=true
     ·rw[j6 hk,show i+0=i from rfl,j6 (aal.2 hk),ajo];simp
     rw[j5 hk,show i+0=i from rfl,j5 (λe=>hk (aal.1 e))];simp
   | succ k=>
     have h':l[k]?=s:=(by simpa using h);rw[acs,show i+(k+1)=i+1+k by omega];by_cases hk:i=0\/mark t=true
     ·rw[j6 hk,j6 (aal.2 hk),List.getElem?_cons_succ,alM h']
      congr 1
      split
      ·push_cast;omega
      rfl
     rw[j5 hk,j5 (λe=>hk (aal.1 e)),List.getElem?_cons_succ,alM h',d9]
theorem ajY:∀{l:List (List Nat)} {i k:Nat} {s:List Nat},l[k]?=s->aeu mark (i+k) s=true->(A7 mark fin l i)[acs mark l i k]?=fin s
 | [],_,_,_,h,_=>by simp at h
 | t::l,i,k,s,h,hk=>by
   rw[A7]
   cases k with
   | zero=>
     obtain rfl:t=s:=(by simpa using h);rw[Qf] at hk;rw[j6 (aal.1 hk),ajo];rfl
   | succ k=>
     have h':l[k]?=s:=(by simpa using h);have fM:aeu mark (i+1+k) s=true:=(by rw[show i+1+k=i+(k+1) by omega];exact hk);rw[acs];by_cases ht:i=0\/mark t=true
     ·rw[j6 ht,j6 (aal.2 ht),Nat.add_comm 1,List.getElem?_cons_succ];exact ajY h' fM
     rw[j5 ht,j5 (λe=>ht (aal.1 e)),d9];exact ajY h' fM
theorem aj3:∀{l:List (List Nat)} {rows:List (List Int)} {i k:Nat} {n:Int} {s:List Nat} {r:List Int},0<=n->rows.length=l.length->l[k]?=s->rows[k]?=r->aeu mark (i+k) s=true->(uY nums rows (wR mark l i n))[acs mark l i k]?=r.map (LJ nums)
 | [],_,_,_,_,_,_,_,_,h,_,_=>by simp at h
 | _::_,[],_,_,_,_,_,_,hl,_,_,_=>by simp at hl
 | t::l,q::rows,i,k,n,s,r,hn,hl,h,hr,hk=>by
   rw[wR];have zS:rows.length=l.length:=(by simpa using hl)
   cases k with
   | zero=>
     obtain rfl:t=s:=(by simpa using h);obtain rfl:q=r:=(by simpa using hr);rw[Qf] at hk;rw[j6 (aal.1 hk),uY,j5 zO,ajo];rfl
   | succ k=>
     have h':l[k]?=s:=(by simpa using h);have Aq:rows[k]?=r:=(by simpa using hr);have fM:aeu mark (i+1+k) s=true:=(by rw[show i+1+k=i+(k+1) by omega];exact hk);rw[acs];by_cases ht:i=0\/mark t=true
     ·rw[j6 ht,j6 (aal.2 ht),uY,j5 zO,Nat.add_comm 1,List.getElem?_cons_succ];exact aj3 zO zS h' Aq fM
     rw[j5 ht,j5 (λe=>ht (aal.1 e)),uY,j6 zO,d9];exact aj3 hn zS h' Aq fM
theorem agS:∀(l:List (List Nat)) (i:Nat),(A7 mark fin l i).length=acs mark l i l.length
 | [],_=>rfl
 | t::l,i=>by
   rw[A7,z9,acs]
   split
   ·rename_i h;rw[j6 (aal.2 h),z9,agS l,Nat.add_comm]
   rename_i h;rw[j5 (λe=>h (aal.1 e)),agS l,d9]
theorem aj6:∀(l:List (List Nat)) (rows:List (List Int)) (i:Nat) (n:Int),0<=n->rows.length=l.length->(uY nums rows (wR mark l i n)).length=acs mark l i l.length
 | [],[],_,_,_,_=>by rw[uY];rfl
 | [],_::_,_,_,_,h=>by simp at h
 | _::_,[],_,_,_,h=>by simp at h
 | t::l,q::rows,i,n,hn,hl=>by
   have zS:rows.length=l.length:=(by simpa using hl);rw[wR,z9,acs];by_cases ht:i=0\/mark t=true
   ·rw[j6 ht,j6 (aal.2 ht),uY,j5 zO,z9,aj6 l rows _ _ zO zS,Nat.add_comm]
   rw[j5 ht,j5 (λe=>ht (aal.1 e)),uY,j6 zO,aj6 l rows _ _ hn zS,d9]
theorem ayU:∀{l:List (List Nat)} {i k:Nat} {s:List Nat},l[k]?=s->aeu mark (i+k) s=true->acs mark l i k<acs mark l i l.length
 | [],_,_,_,h,_=>by simp at h
 | t::l,i,k,s,h,hk=>by
   rw[z9]
   cases k with
   | zero=>
     obtain rfl:t=s:=(by simpa using h);rw[Qf] at hk;rw[ajo,acs,j6 hk];omega
   | succ k=>
     have h':l[k]?=s:=(by simpa using h);have fM:aeu mark (i+1+k) s=true:=(by rw[show i+1+k=i+(k+1) by omega];exact hk);rw[acs,acs];have:=ayU h' fM;omega
def apn(mark:List Nat->Bool)(sets:List (List Nat))(S:List Nat)(n:Nat):Prop:=∃k,sets[k]?=S/\aeu mark k S=true/\n=acs mark sets 0 k
section
variable {mark fin:List Nat->Bool} {jD:List Nat->Nat->List Nat} {K:Nat} {sets:List (List Nat)} {rows:List (List Int)} {a:zZ}
theorem avF(h:sets[0]?=some [0]):apn mark sets [0] 0:=⟨0,h,aal.2 (.inl rfl),by cases sets<;>rfl⟩
theorem avH{S:List Nat}{n:Nat}(h:apn mark sets S n):(TM a mark fin sets rows).final[n]?=fin S:=by
 obtain⟨k,h1,h2,rfl⟩:=h;exact ajY h1 (by rw[d9];exact h2)
theorem ay8(ht:OO jD K sets rows)(hl:rows.length=sets.length){S:List Nat}{n:Nat}(h:apn mark sets S n){x:Nat}(hx:x<K)(h0:sets[0]?=some [0])(dD:jD S x≠[0]):
 ∃r v,(TM a mark fin sets rows).steps[n]?=some r/\r.length=K/\r[x]?=some v/\((v= -1/\(jD S x=[]\/mark (jD S x)=false))\/∃n':Nat,v=(n':Int)/\n'<(TM a mark fin sets rows).final.length/\jD S x≠[]/\mark (jD S x)=true/\apn mark sets (jD S x) n'):=by
 obtain⟨k,h1,h2,rfl⟩:=h;have hk:=(z4.1 h1).1;obtain⟨r,hr⟩:∃r,rows[k]?=some r:=⟨_,z6 zO⟩;obtain⟨AU,s,hs,aI⟩:=ht.row k r hr;obtain rfl:S=s:=zI (h1.symm.trans hs);obtain⟨v,hv,hc⟩:=aI x hx;refine⟨r.map (LJ (wR mark sets 0 0)),LJ (wR mark sets 0 0) v,aj3 (Int.le_refl 0) hl h1 hr (by rw[d9];exact h2),by rw[z8];exact AU,by rw[z17,hv];rfl,?_⟩
 rcases hc with ⟨h3,rfl⟩ | ⟨h3,j,h4,rfl⟩
 ·exact .inl ⟨rfl,.inl h3⟩
 have hm:LJ (wR mark sets 0 0) (j:Int)=if aeu mark j (jD S x) then ((acs mark sets 0 j:Nat):Int) else -1:=by
  unfold LJ;rw[j6 (Int.natCast_nonneg j),Int.toNat_natCast,alM h4,Option.getD_some,d9,Int.zero_add]
 rw[hm];have hj:j≠0:=λe=>dD (by rw[e,h0] at h4;exact(zI h4).symm);by_cases hk:aeu mark j (jD S x)=true
 ·rw[j6 hk];have kV:mark (jD S x)=true:=(aal.1 hk).resolve_left hj;refine .inr ⟨_,rfl,?_,h3,kV,j,h4,hk,rfl⟩;show _<(A7 mark fin sets 0).length;rw[agS];exact ayU h4 (by rw[d9];exact hk)
 rw[j5 hk];refine .inl ⟨rfl,.inr ?_⟩
 cases hq:mark (jD S x) with
 | false=>rfl
 | true=>exact absurd (aal.2 (.inr hq)) hk
theorem ay9(hl:rows.length=sets.length):(TM a mark fin sets rows).steps.length=(TM a mark fin sets rows).final.length:=by
 show (uY _ rows _).length=(A7 mark fin sets 0).length;rw[aj6 sets rows 0 0 (Int.le_refl 0) hl,agS]
end
def afT:List Bool->Nat
 | []=>0
 | b::l=>(if b then 0 else 1)+afT l
theorem akV:∀{l:List Bool} {i:Nat},l[i]?=some false->afT (l.set i true)+1=afT l
 | [],i,h=>by simp at h
 | b::l,0,h=>by
   simp only[List.getElem?_cons_zero,l5] at h;subst h;rw[List.set_cons_zero,afT,afT];simp;omega
 | b::l,i+1,h=>by
   rw[List.getElem?_cons_succ] at h;rw[List.set_cons_succ,afT,afT];have:=akV h;omega
theorem asX:∀n:Nat,afT (List.replicate n false)=n
 | 0=>rfl
 | n+1=>by rw[List.replicate_succ,afT,asX n];simp;omega
structure akW (n:Nat) (d:KG):Prop where
 word:d.word.length=n
 seen:d.seen.length=n
 lt:∀s∈d.list,s<n
 num:d.list.length+afT d.seen=n
 len:∀u∈d.word,u.length<d.list.length
 pos:0<d.list.length
theorem akW.start(h:0<n):akW n (aFa n):=by
 unfold aFa;refine⟨zP,zP,λs hs=>?_,?_,λu hu=>by have h1:u=[]:=(List.mem_replicate.1 hu).2;rw[h1];show 0<1;omega,by show 0<1;omega⟩
 ·rw[og] at hs;omega
 have h1:(List.replicate n false)[0]?=some false:=(by rw[List.getElem?_replicate,j6 h]);have:=akV h1;rw[asX] at this;show 1+afT ((List.replicate n false).set 0 true)=n;omega
theorem akW.cell(h:akW n d)(st:Nat->Nm)(s x:Nat)(tt:Int)(ht:tt<n):akW n (azJ st s d x tt):=by
 unfold azJ
 split
 ·rename_i hc;have hl:tt.toNat<d.seen.length:=(by rw[h.seen];omega)
  have hf:d.seen[tt.toNat]?=some false:=by
   have h1:=hc.2;rw[z6 hl] at h1 ⊢;rw[Option.getD_some] at h1;rw[h1]
  refine⟨by rw[List.length_set];exact h.word,by rw[List.length_set];exact h.seen,λy hy=>?_,?_,λu hu=>?_,by rw[z5];have:=h.pos;omega⟩
  ·rcases z12.1 hy with h1 | h1
   ·exact h.lt y h1
   rw[og] at h1;omega
  ·have:=akV hf;have:=h.num;rw[z5];simp;omega
  have lW:((d.word[s]?).getD []).length<d.list.length:=by
   cases hw:d.word[s]? with
   | none=>exact h.pos
   | some u'=>exact h.len u' (SK hw)
  rw[z5,TQ]
  rcases List.mem_or_eq_of_mem_set hu with h1 | h1
  ·have:=h.len u h1;omega
  rw[h1,z5,TQ];omega
 exact h
theorem akW.row(st:Nat->Nm)(s:Nat):∀(r:List Int) (x:Nat) {d:KG},akW n d->(∀v∈r,v<n)->akW n (aFf st s r x d)
 | [],_,_,h,_=>h
 | t::r,x,_,h,hr=>akW.row st s r (x+1) (h.cell st s x t (hr t (List.mem_cons_self ..))) λv hv=>hr v (Zb _ hv)
theorem aPj(a:Aut)(st:Nat->Nm)(f k:Nat)(h:d.list[k]?=s):as5 a st (f+1) k d=(s,(d.word[s]?).getD [])::as5 a st f (k+1) (aFf st s ((a.steps[s]?).getD []) 0 d):=by
 rw[as5,h]
theorem aPk(a:Aut)(st:Nat->Nm)(f k:Nat)(h:d.list[k]?=none):as5 a st f k d=[]:=by
 cases f with
 | zero=>rfl
 | succ f=>rw[as5,h]
theorem aPl(st:Nat->Nm)(s:Nat){r:List Int}{t:Int}(h:r[x]?=t)(d:KG):aFf st s (r.drop x) x d=aFf st s (r.drop (x+1)) (x+1) (azJ st s d x t):=by
 obtain⟨hx,rfl⟩:=z4.1 h;rw[nZ hx,aFf]
theorem aS9(st:Nat->Nm)(s x:Nat){t:Int}(h:¬(0<=t/\(d.seen[t.toNat]?).getD true=false)):azJ st s d x t=d:=by
 unfold azJ;rw[j5 h]
theorem aPp(st:Nat->Nm)(s x:Nat)(h:d.seen[t]?=some false):azJ st s d x (t:Int)=⟨d.word.set t ((d.word[s]?).getD []++[st x]),d.seen.set t true,d.list++[t]⟩:=by
 unfold azJ;rw[j6 ⟨zO,by rw[Int.toNat_natCast,h];rfl⟩,Int.toNat_natCast]
theorem aJK{l:List (List Nat)}{v:Int}(h:v∈wR mark l 0 0):v<((A7 mark fin l 0).length:Int):=by
 obtain⟨k,hk⟩:=List.mem_iff_getElem?.1 h;rw[agS]
 have hl:k<l.length:=by
  have h1:=(z4.1 hk).1
  have:∀(l:List (List Nat)) (i:Nat) (n:Int),(wR mark l i n).length=l.length:=by
   intro l
   induction l with
   | nil=>intro i n;rfl
   | cons s l ih=>intro i n;rw[wR];split<;>rw[z9,z9,ih]
  rwa [this] at h1
 have hg:=alM (mark:=mark) (i:=0) (n:=0) (z6 hl);rw[hk] at hg;have hv:=zI hg;rw[hv]
 split
 ·rename_i hb;have:=ayU (mark:=mark) (i:=0) (z6 hl) hb;omega
 omega
theorem apK{N:Int}(hN:0<N)(hn:∀v∈nums,v<N):∀(rows:List (List Int)) (ns:List Int),∀r∈uY nums rows ns,∀v∈r,v<N
 | [],_,r,hr=>by rw[uY] at hr;cases hr
 | _::_,[],r,hr=>by rw[uY] at hr;cases hr
 | r0::l,n::ns,r,hr=>by
   rw[uY] at hr
   split at hr
   ·exact apK hN hn l ns r hr
   rcases TT.1 hr with rfl | hr
   ·intro v hv;obtain⟨t,-,rfl⟩:=List.mem_map.1 hv
    split
    ·cases hg:nums[t.toNat]? with
     | none=>exact hN
     | some u=>exact hn u (SK hg)
    omega
   exact apK hN hn l ns r hr
theorem aTa(h:(DJ p elems).2=0):(DJ p elems).1.steps.length=(DJ p elems).1.final.length/\0<(DJ p elems).1.final.length/\∀r∈(DJ p elems).1.steps,∀v∈r,v<((DJ p elems).1.final.length:Int):=by
 obtain⟨-,sets,rows,h1,h2⟩:=aza h;have hl:=ay9 (a:=mZ elems [p]) (mark:=λs=>EX s (aao (eU elems p))) (fin:=qA (eU elems p)) (aiu (P:=λ_=>True) (λ_ _=>trivial) h1).2.2
 have h0:0<(DJ p elems).1.final.length:=by
  rw[h2];exact(z4.1 (avH (rows:=rows) (a:=mZ elems [p]) (fin:=qA (eU elems p)) (avF (mark:=λs=>EX s (aao (eU elems p))) (ar4 h1)))).1
 rw[<-h2] at hl;refine⟨hl,h0,?_⟩;rw[h2] at h0 ⊢;exact apK (Int.ofNat_lt.2 h0) (λv hv=>aJK hv) rows _
theorem azh{mark fin:List Nat->Bool}:∀(l:List (List Nat)) (i:Nat),(A7 mark fin l i).length<=l.length
 | [],_=>zR _
 | s::l,i=>by
   rw[A7];have:=azh (mark:=mark) (fin:=fin) l (i+1)
   split
   ·rw[z9,z9];omega
   rw[z9];omega
theorem apG:∀(rows:List (List Int)) (ns:List Int),∀r∈uY nums rows ns,∃r0∈rows,r.length=r0.length
 | [],_,r,hr=>by rw[uY] at hr;cases hr
 | _::_,[],r,hr=>by rw[uY] at hr;cases hr
 | r0::l,n::ns,r,hr=>by
   rw[uY] at hr
   split at hr
   ·obtain⟨r1,h1,h2⟩:=apG l ns r hr;exact⟨r1,Zb _ h1,h2⟩
   rcases TT.1 hr with rfl | hr
   ·exact⟨r0,List.mem_cons_self ..,by rw[z8]⟩
   obtain⟨r1,h1,h2⟩:=apG l ns r hr;exact⟨r1,Zb _ h1,h2⟩
theorem aVK(h:(DJ p elems).2=0):(DJ p elems).1.final.length<1000000/\∀r∈(DJ p elems).1.steps,r.length<1000000:=by
 obtain⟨hc,sets,rows,h1,h2⟩:=aza h;obtain⟨hg,ht,-⟩:=aiu (P:=λ_=>True) (λ_ _=>trivial) h1;have hs:sets.length<=1000:=hg.len zP;obtain⟨q1,q2⟩:=VW hc;have iY:mF [p]<=4000:=(by rw[mF,mF];omega);obtain⟨q3,q4⟩:=Yf (elems:=elems) (ps:=[p]) (N:=10000) zO;rw[h2];refine⟨Qe (azh sets 0) zO,λr hr=>?_⟩;obtain⟨r0,hr0,e⟩:=apG rows _ r hr;obtain⟨k,hk⟩:=List.mem_iff_getElem?.1 hr0;have:=(ht.row k r0 hk).1;rw[e,this];unfold zZ.size;omega
theorem aKe(n c:Nat)(W:World):(binOp .eql 37 (.slice none n c) ()).run prog W= .ok true W:=by kernel_rfl
theorem aKc(b o n c:Nat)(W:World):(binOp .eql 37 (b,o,n,c) ()).run prog W= .ok false W:=by kernel_rfl
theorem aKd(w:World)(base:Nat)(l l2:List Nm)(v:Value)(dV:ax w base 23 2 dK l v)(A:Option Addr)(m c:Nat)(F:Nat->Prop)(hr:aY w F 2 dK l2 A m)(hlen:l.length+l2.length<4000000)(eY:base<=w)(ty:TypeId):
 ∃v' w',(Builtin.append_ #[37,37] ty #[v,(A,m,c)]).run prog w= .ok v' w'/\ax w' base 23 2 dK (l++l2) v'/\w.grownBy w' v.ownBlock/\(v'.ownBlock=v.ownBlock\/v'.ownBlock=some w.heap.size):=by
 obtain⟨ht,i,hi,hz,bY,nP,ry,h0,xZ⟩:=tyN;have hs:=hr.src (λ_=>rfl) zD m (zR _);have lW:l2.take m=l2:=(by rw[hr.1];exact List.take_length);rw[lW] at hs;obtain⟨v',w',bG,r1,r2,r3⟩:=TD (P:=prog) w base 37 ty 23 i _ 2 32 ht hi hz bY nP ry h0 _ _ _ dV A m c _ hs (ajf l2) (by rw[hr.1];exact hlen) xZ eY;have ho:ax w' base 23 2 dK (l++l2) v':=(by unfold ax;rw[z5,l6,<-hr.1];exact r1);exact⟨v',w',bG,ho,r2,r3⟩
theorem aTB(l:List Nm)(A:Option Addr)(n c:Nat)(w:World)(hr:aY w (· <w) 2 dK l A n)(hA:∀a,A=some a->∃b o,a=⟨b,o,none⟩)(hn:n<1000000):
 Cl 151 #[(A,n,c)] w λe w'=>∃v',e= .returned v'/\ax w' w 23 2 dK l v'/\Bw w w':=by
 cases A with
 | none=>
   have hl:l=[]:=by
    have h1:=hr.1
    cases l with
    | nil=>rfl
    | cons x l=>
      obtain⟨b,off,h,-⟩:=hr.2 zP;cases h
   have HL:=zH hl;have heq:=aKe n c;clear hr hl;go_enter func151,ntmps151;go_wp2_with fail;go_ret;exact⟨_,rfl,by rw[HL.out];exact ax.nil _ _ _ _ _,j9 _ _⟩
 | some a=>
   obtain⟨b,o,rfl⟩:=hA a rfl;obtain⟨w1,bI,S1,nC,ai⟩:=af w (Zc #[] 23);have dV:ax w1 w 23 2 dK ([]:List Nm) (w,0,0,0):=⟨zP,.inr ⟨w,0,#[],rfl,zR _,S1,zR _,by unfold maxLen;omega,zP,zP⟩⟩;have LV:=hr.below ai;obtain⟨v',w2,bG,rO,qo,-⟩:=aKd w1 w [] l _ dV (b,o) n c _ LV (by have:=hr.1;simp;omega) zO 37;rw[d6] at rO;have DZ:=zH rO;have DU:Hid (Bw w w2):=zH (ai.trans (grown_below dV zO qo));obtain⟨A2,c2,rfl⟩:=rO.form;obtain⟨n2,qY⟩:=zF l.length;rw[qY] at bG DZ;have qB:=zH bG;have heq:=aKc b o n c;clear bG rO qo hr LV dV S1 hA qY;go_enter func151,ntmps151
   go_wp2_with (at_builtin;refine wO rfl (.tmp 5) (.tmp 6) 37 rfl (v1:=.slice (some ⟨w,0,none⟩) 0 0) (v2:=(b,o,n,c)) rfl rfl qB ?_)
   go_ret;exact⟨_,rfl,DZ,DU⟩
theorem ax.aWN{v:Value}(h:ax w base e 1 (λx=>[f x]) l v)(hi:i<l.length)(x:α)(hu:prog.underlying ty=some (.slice e))(aTC:∀W:World,(sizeOf e).run prog W= .ok 1 W):
 ∃g cap,v= .slice (some ⟨g,0,none⟩) l.length cap/\base<=g/\g<w.heap.size/\v.ownBlock=some g/\w.frozen? ⟨g,i,none⟩=false/\(∃u,w.cell? ⟨g,i,none⟩=some u)/\
  (∀W,(Instr.indexAt ty v i).run prog W= .ok (.pointer (some ⟨g,i,none⟩)) W)/\ax (w.setCell ⟨g,i,none⟩ (f x)) base e 1 (λx=>[f x]) (l.set i x) v:=by
 rcases h.2 with ⟨_,hn⟩ | ⟨g,cap,cur,rfl,hg,hh,GK,yg,mP,kU⟩
 ·omega
 have bY:i<cur.size:=(by rw[mP];omega);refine⟨g,cap,rfl,hg,aC hh,rfl,k8 w g i _ _ hh,⟨cur[i],?_⟩,λW=>?_,?_⟩
 ·rw[Ys w g _ _ _ _ hh];exact Array.getElem?_eq_getElem bY
 ·have e:=dN (P:=prog) ty e 1 hu aTC (rfl:(g:Option Addr)=g) l.length cap i hi W;rw[Nat.mul_one,d9] at e;exact e
 refine⟨tX (cells:=λx=>[f x]) (sz:=1) (λ_=>rfl) _,.inr ⟨g,cap,cur.setIfInBounds i (f x),by rw[List.length_set],hg,dM hh,by rw[List.length_set];exact GK,yg,by simpa using mP,?_⟩⟩
 have Gh:(l.set i x).flatMap (λx=>[f x])=(l.flatMap λx=>[f x]).set i (f x):=by
  have hl:∀(l:List α) (i:Nat),(l.set i x).flatMap (λx=>[f x])=(l.flatMap λx=>[f x]).set i (f x):=by
   intro l
   induction l with
   | nil=>intro i;rfl
   | cons y l ih=>
     intro i
     cases i with
     | zero=>rfl
     | succ i=>
       show [f y]++(l.set i x).flatMap (λx=>[f x])=([f y]++l.flatMap λx=>[f x]).set (i+1) _;rw[ih];rfl
  exact hl l i
 rw[Gh,<-kU,List.length_set,Array.toList_setIfInBounds,List.take_set]
theorem aM3:(prog.info? 37).map (λi=>(i.zero,i.size,i.bytes))=some (some (.slice none 0 0),1,24):=by kernel_rfl
theorem tyW:rC prog 30 37 () 1 24:=sU zK aM3 zK zD zD
theorem aUL(n:Nat)(hn:n<1000000)(W:World):(Instr.makeSlice 30 n n).run prog W= .ok (W,0,n,n) (W.alloc (Zc (madeCells (Value.slice none 0 0).cells (n*1)) 37)):=by
 obtain⟨ht,i,hi,hz,bY,nP,-⟩:=tyW;rw[run_make W 30 37 i _ ht hi hz .i64 .i64 n n zO zO (by rw[nP];omega) zO,bY];simp only[Int.toNat_natCast]
theorem aUM(n:Nat)(hn:n<1000000)(W:World):(Instr.makeSlice 48 n n).run prog W= .ok (W,0,n,n) (W.alloc (Zc (madeCells (Value.bool false).cells (n*1)) 4)):=by
 obtain⟨ht,i,hi,hz,bY,nP,-⟩:=tyB;rw[run_make W 48 4 i _ ht hi hz .i64 .i64 n n zO zO (by rw[nP];omega) zO,bY];simp only[Int.toNat_natCast]
theorem aFT(z:α)(h:w.heap[g]?=Zc (madeCells #[f z] (n*1)) e)(hn:n<1000000)(hb:base<=g):ax w base e 1 (λx=>[f x]) (List.replicate n z) (g,0,n,n):=by
 rw[Nat.mul_one] at h;refine⟨tX (cells:=λx=>[f x]) (sz:=1) (λ_=>rfl) _,.inr ⟨g,n,_,by rw[List.length_replicate],hb,h,by rw[List.length_replicate];exact zR _,by unfold maxLen;omega,by rw[size_madeCells,Nat.mul_one],?_⟩⟩;rw[toList_madeCells_one,List.length_replicate,Nat.mul_one,l8 zP];clear h hn hb
 induction n with
 | zero=>rfl
 | succ n ih=>rw[List.replicate_succ,List.replicate_succ,l4,<-ih];rfl
theorem ax.at1{c:Nat}(h:ax w base e 1 (λx=>[f x]) l (g,0,n,c)){x:α}(hx:l[i]?=some x):w.cell? (g,i)=f x:=by
 have hi:=(z4.1 hx).1
 rcases h.2 with ⟨h1,_⟩ | ⟨g',cap,cur,h1,hg,hh,GK,yg,mP,kU⟩
 ·cases h1
 simp only[i6,l5,Addr.mk.injEq,and_true,true_and] at h1;obtain⟨rfl,-,rfl⟩:=h1;rw[Ys w g _ _ _ _ hh]
 have hl:∀(l:List α) (i:Nat),(l.flatMap λx=>[f x])[i]?=l[i]?.map f:=by
  intro l
  induction l with
  | nil=>intro i;rfl
  | cons y l ih=>
    intro i
    cases i with
    | zero=>rfl
    | succ i=>show ([f y]++l.flatMap λx=>[f x])[i+1]?=_;simpa using ih i
 have h2:=hl l i;rw[<-kU,hx,List.getElem?_take,j6 zO] at h2;simpa using h2
theorem aFX(hu:prog.underlying ty=some (.slice e))(aTC:∀W:World,(sizeOf e).run prog W= .ok 1 W)(g n c i:Nat)(hi:i<n)(W:World):(Instr.indexAt ty (g,0,n,c) i).run prog W= .ok (g,i) W:=by
 have e:=dN (P:=prog) ty e 1 hu aTC (rfl:(g:Option Addr)=g) n c i hi W;rw[Nat.mul_one,d9] at e;exact e
structure WdX where
 st:Nat
 word:List Nm
 A:Option Addr
 n:Nat
 c:Nat
def aQM(x:WdX):Array Value:=#[x.st,(x.A,x.n,x.c)]
def al1(x:WdX):Nat×List Nm:=(x.st,x.word)
def RdW(T:Nat->Prop)(x:WdX)(A:World):Prop:=aY A T 2 dK x.word x.A x.n/\x.n<=x.c/\x.n<1000000
structure WdM (W:World) (T:Nat->Prop) (base n:Nat) (d:KG) (hs:List Hdr) (v3 v4 v5:Value):Prop where
 w:ax W base 37 1 (λx:Hdr=>[x.v]) hs v3
 s:ax W base 4 1 (λb:Bool=>[b]) d.seen v4
 l:ax W base 3 1 aV d.list v5
 hl:hs.length=n
 ok:akW n d
 r:∀(i:Nat) (x:Hdr) (u:List Nm),hs[i]?=x->d.word[i]?=u->ax W base 23 2 dK u x.v
 tw:∀q,v3.ownBlock=some q->T q
 ts:∀q,v4.ownBlock=some q->T q
 tl:∀q,v5.ownBlock=some q->T q
 tr:∀x∈hs,∀q,x.v.ownBlock=some q->T q
theorem WdM.keep{W':World}{T':Nat->Prop}(h:WdM W T base n d hs v3 v4 v5)(hb:∀q,T q->T' q/\W'.heap[q]?=W.heap[q]?):WdM W' T' base n d hs v3 v4 v5:=
 ⟨h.w.bu λq hq=>(hb q (h.tw q hq)).2,h.s.bu λq hq=>(hb q (h.ts q hq)).2,h.l.bu λq hq=>(hb q (h.tl q hq)).2,h.hl,h.ok,
  λi x u hx hu=>(h.r i x u hx hu).bu λq hq=>(hb q (h.tr x (SK hx) q hq)).2,λq hq=>(hb q (h.tw q hq)).1,λq hq=>(hb q (h.ts q hq)).1,λq hq=>(hb q (h.tl q hq)).1,λx hx q hq=>(hb q (h.tr x hx q hq)).1⟩
theorem WdM.word(h:WdM W T base n d hs v3 v4 v5)(hn:n<1000000)(Af:s<n):∃A m c u,hs[s]?=some ⟨A,m,c⟩/\d.word[s]?=some u/\RdW T ⟨s,u,A,m,c⟩ W/\∀a,A=some a->∃b o,a=⟨b,o,none⟩:=by
 have h1:s<hs.length:=(by rw[h.hl];exact Af);have h2:s<d.word.length:=(by rw[h.ok.word];exact Af);obtain⟨⟨A,m,c⟩,hx⟩:∃x,hs[s]?=some x:=⟨_,z6 h1⟩;obtain⟨u,hu⟩:∃u,d.word[s]?=some u:=⟨_,z6 h2⟩;obtain⟨ho,hul,lQ⟩:=zK3 (h.r s _ u hx hu) (h.ok.len u (SK hu)) h.ok.num
 have hAf:∀a,A=some a->∃b o,a=⟨b,o,none⟩:=λa ha=>by
  rcases ho.2 with ⟨h1,_⟩ | ⟨g,cap,cur,h1,_⟩
  ·unfold Hdr.v at h1;simp only[i6] at h1;rw[ha] at h1;cases h1.1
  unfold Hdr.v at h1;simp only[i6] at h1;rw[ha] at h1;exact⟨g,0,zI h1.1⟩
 obtain⟨A',c',e,hr,hm,-⟩:=ho.rowAt (λ_=>rfl) zD T (λq hq=>h.tr _ (SK hx) q hq);unfold Hdr.v at e;simp only[i6] at e;obtain⟨rfl,rfl,rfl⟩:=e;exact⟨A,u.length,c,u,hx,hu,⟨hr,hm,by show u.length<1000000;have:=lQ;omega⟩,hAf⟩
theorem WdM.aM4{g4 n4 c4:Nat}(h:WdM W T base n d hs v3 (g4,0,n4,c4) v5)(ht:t<n):
 g4<W/\W.frozen? (g4,t)=false/\(∀q,q≠g4->(W.setCell (g4,t) true).heap[q]?=W.heap[q]?)/\
  ax (W.setCell (g4,t) true) base 4 1 (λb:Bool=>[b]) (d.seen.set t true) (g4,0,n4,c4):=by
 obtain⟨g,cap,e,hg,aN,-,hf,-,-,ho⟩:=h.s.aWN (i:=t) (by rw[h.ok.seen];exact ht) true (ty:=48) underlying48 (λw=>by kernel_rfl);simp only[i6,l5,Addr.mk.injEq,and_true,true_and] at e;obtain⟨rfl,-,-⟩:=e;exact⟨aN,hf,λq hq=>gq hq,ho⟩
theorem WdM.ne(h:WdM W T base n d hs v3 v4 v5){q3 q4:Nat}(h3:v3.ownBlock=q3)(h4:v4.ownBlock=q4):q3≠q4/\(∀q5,v5.ownBlock=some q5->q5≠q3/\q5≠q4)/\∀(i:Nat) (x:Hdr) (u:List Nm) (q:Nat),hs[i]?=x->d.word[i]?=u->x.v.ownBlock=q->q≠q3/\q≠q4:=by
 obtain⟨cs3,e3⟩:=h.w.bC h3;obtain⟨cs4,e4⟩:=h.s.bC h4;refine⟨iP e3 e4 zD,λq5 h5=>?_,λi x u q hx hu hq=>?_⟩
 ·obtain⟨cs5,e5⟩:=h.l.bC h5;exact⟨iP e5 e3 zD,iP e5 e4 zD⟩
 obtain⟨cs,e⟩:=(h.r i x u hx hu).bC hq;exact⟨iP e e3 zD,iP e e4 zD⟩
structure WlS (W:World) (F:Nat->Prop) (bc n:Nat) (wr:World) (T:Nat->Prop) (d:KG) (hs:List Hdr) (A5:Option Addr) (n5 c5:Nat):Prop where
 m:WdM wr T W n d hs (W,0,n,n) (W.heap.size+1,0,n,n) (A5,n5,c5)
 tb:TB T W wr
 f:∀q,F q\/q=bc->wr.heap[q]?=W.heap[q]?
 sz:W.heap.size<=wr
theorem WlS.kept{X:Nat->Prop}(h:WlS W F bc n wr T d hs A5 n5 c5)(hF:∀q,F q\/q=bc->q<W.heap.size/\¬X q)(hk:Kept (λk=>(k<W/\X k)\/(W<=k/\¬T k)) wr w'):WlS W F bc n w' T d hs A5 n5 c5:=
 ⟨h.m.keep λq hq=>⟨hq,hk.block q (h.tb q hq).2 (by rintro (⟨h1,_⟩ | ⟨_,h1⟩);have:=(h.tb q hq).1;omega;exact h1 hq)⟩,h.tb.size hk.size,
  λq hq=>(hk.block q (d4 (hF q hq).1 h.sz) (by rintro (⟨_,h1⟩ | ⟨h1,_⟩);exact(hF q hq).2 h1;have:=(hF q hq).1;omega)).trans (h.f q hq),zT h.sz hk.size⟩
theorem WlS.below(h:WlS W F bc n wr T d hs A5 n5 c5)(hF:∀q,F q\/q=bc->q<W.heap.size)(hb:Bw wr w'):WlS W F bc n w' T d hs A5 n5 c5:=
 ⟨h.m.keep λq hq=>⟨hq,hb.block q (h.tb q hq).2⟩,h.tb.size hb.size,λq hq=>(hb.block q (d4 (hF q hq) h.sz)).trans (h.f q hq),zT h.sz hb.size⟩
theorem WlS.step{wq:World}{B5:Option Addr}{m5 d5:Nat}(h:WlS W F bc n wq T d hs A5 n5 c5)(hF:∀q,F q\/q=bc->q<W.heap.size){st:Nat->Nm}{u:List Nm}{y:Hdr}(htn:t<n)(ht:d.seen[t]?=some false)(hu:d.word[s]?=u)
 (bY:wq.heap.size<=w') (Y9:∀q,q<wq.heap.size->q≠W.heap.size->q≠W.heap.size+1->(Value.slice A5 n5 c5).ownBlock≠some q->w'.heap[q]?=wq.heap[q]?)
 (hw:ax w' W 37 1 (λx:Hdr=>[x.v]) (hs.set t y) (W,0,n,n)) (Af:ax w' W 4 1 (λb:Bool=>[b]) (d.seen.set t true) (W.heap.size+1,0,n,n))
 (hl:ax w' W 3 1 aV (d.list++[t]) (B5,m5,d5)) (hlb:(Value.slice B5 m5 d5).ownBlock=(Value.slice A5 n5 c5).ownBlock\/∃q,(Value.slice B5 m5 d5).ownBlock=some q/\wq.heap.size<=q/\q<w'.heap.size)
 (hr:ax w' W 23 2 dK (u++[st x]) y.v) (JK:∀q,y.v.ownBlock=some q->wq.heap.size<=q/\q<w'.heap.size):
 WlS W F bc n w' (λk=>T k\/(wq<=k/\k<w')) (azJ st s d x (t:Int)) (hs.set t y) B5 m5 d5:=by
 have EC:=h.tb _ (h.m.tw W rfl);have aUN:=h.tb _ (h.m.ts (W.heap.size+1) rfl);have fQ:akW n (azJ st s d x (t:Int)):=h.m.ok.cell st s x t zO;rw[aPp st s x ht,hu] at fQ ⊢;refine⟨⟨hw,Af,hl,by rw[List.length_set];exact h.m.hl,fQ,λi z v hz hv=>?_,λq hq=>.inl (h.m.tw q hq),λq hq=>.inl (h.m.ts q hq),λq hq=>?_,λz hz q hq=>?_⟩,λq hq=>?_,λq hq=>?_,zT h.sz bY⟩
 ·by_cases e:t=i
  ·subst e;rw[List.getElem?_set,j6 rfl,j6 (by rw[h.m.hl];exact htn)] at hz;rw[show (⟨d.word.set t ((some u).getD []++[st x]),d.seen.set t true,d.list++[t]⟩:KG).word=d.word.set t ((some u).getD []++[st x]) from rfl,List.getElem?_set,j6 rfl,j6 (by rw[h.m.ok.word];exact htn)] at hv;obtain rfl:=zI hz;obtain rfl:=zI hv;exact hr
  rw[List.getElem?_set,j5 e] at hz;rw[show (⟨d.word.set t ((some u).getD []++[st x]),d.seen.set t true,d.list++[t]⟩:KG).word=d.word.set t ((some u).getD []++[st x]) from rfl,List.getElem?_set,j5 e] at hv;have ho:=h.m.r i z v hz hv;refine ho.bu λq hq=>?_;obtain⟨n1,n2⟩:=(h.m.ne (q3:=W) (q4:=W.heap.size+1) rfl rfl).2.2 i z v q hz hv hq;refine Y9 q (h.tb q (h.m.tr z (SK hz) q hq)).2 n1 n2 λe5=>?_;obtain⟨cs,ec⟩:=ho.bC hq;obtain⟨cs5,ec5⟩:=h.m.l.bC e5;exact iP ec ec5 zD rfl
 ·rcases hlb with e | ⟨q',e,h1,h2⟩
  ·exact .inl (h.m.tl q (e ▸ hq))
  obtain rfl:q'=q:=zI (e.symm.trans hq);exact .inr ⟨h1,h2⟩
 ·rcases List.mem_or_eq_of_mem_set hz with h1 | h1
  ·exact .inl (h.m.tr z h1 q hq)
  subst h1;exact .inr (JK q hq)
 ·rcases hq with h1 | h1
  ·have:=h.tb q h1;omega
  have:=h.sz;omega
 have h1:=hF q hq;have h2:=h.sz;refine (Y9 q zO zO zO λe5=>?_).trans (h.f q hq);have:=h.tb q (h.m.tl q e5);omega
theorem aQZ(a:Aut)(bc:Nat)(nA:Option Addr)(nn nc:Nat)(sA:Option Addr)(sn sc:Nat)(fA:Option Addr)(fn fc:Nat)(tA:Option Addr)(tn tc:Nat)(hs0:List Hdr)(X F:Nat->Prop)(w0:World)(CZ:w0.heap[bc]?=Zc #[(nA,nn,nc),(sA,sn,sc),(fA,fn,fc),(tA,tn,tc)] 51)(hXb:¬X bc)(hXF:∀q,F q->¬X q/\q<w0.heap.size)
 (hN:aY w0 F 2 dK a.names nA nn) (hS:aY w0 F 1 mG a.spaces sA sn) (IU:fn=a.final.length) (hT:aY w0 F 1 zx hs0 tA tn) (hR:∀(i:Nat) (r:List Int) (h:Hdr),a.steps[i]?=r->hs0[i]?=h->aY w0 F 1 qf r h.A h.n) (htn:tn=fn) (htl:a.steps.length=fn)
 (JC:nn<1000000) (Di:sn<1000000) (hf0:0<fn) (hf1:fn<1000000) (aN:∀r∈a.steps,∀v∈r,v<(fn:Int)) (AU:∀r∈a.steps,r.length<1000000):
 aOY prog 150 #[(bc,0)] aQM X RdW (λxs=>xs.map al1=azV a) (λpre=>pre.map al1<+:azV a) (λ_=>True) w0:=by
 intro n l J Jx W hk hB h1 h0 hY hJ;have hFW:∀q,F q->W.heap[q]?=w0.heap[q]?:=λq hq=>hk.block q (hXF q hq).2 (hXF q hq).1;have Sc:=bF CZ hk hXb;have jA:=aC Sc;have hFl:∀q,F q->q<W.heap.size:=λq hq=>d4 (hXF q hq).2 hk.size;obtain⟨c0,c1,c2,c3⟩:=arZ Sc;obtain⟨w1,bI,S1,nC,ai⟩:=af W (Zc (madeCells (Value.slice none 0 0).cells (fn*1)) 37);have e1:w1=W.heap.size+1:=(by rw[<-bI];simp);obtain⟨w2,mJ,S2,uS,ag⟩:=af w1 (Zc (madeCells (Value.bool false).cells (fn*1)) 4);have e2:w2=W.heap.size+1+1:=(by rw[<-mJ];simp;omega);have aUO:=aUL fn hf1 W;have aUP:=aUM fn hf1 w1;rw[bI] at aUO;rw[mJ,e1] at aUP;rw[e1] at S2;have ow3:ax w2 W 37 1 (λx:Hdr=>[x.v]) (List.replicate fn ⟨none,0,0⟩) (W,0,fn,fn):=aFT (f:=λx:Hdr=>x.v) ⟨none,0,0⟩ (ae S1 ag) hf1 (zR _);have ow4:ax w2 W 4 1 (λb:Bool=>[b]) (List.replicate fn false) (W.heap.size+1,0,fn,fn):=aFT (f:=λb:Bool=>b) false S2 hf1 zO;obtain⟨g',cap',ee,-,-,-,hfz,⟨a0g,huz⟩,-,aKL⟩:=ow4.aWN (i:=0) (by simpa using hf0) true (ty:=48) underlying48 (λw=>by kernel_rfl);simp only[i6,l5,Addr.mk.injEq,and_true,true_and] at ee;obtain⟨rfl,-,-⟩:=ee;obtain⟨w3,vU⟩:=zF (w2.setCell (W.heap.size+1,0) true);rw[vU] at aKL;have e3:w3.heap.size=w2:=(by rw[<-vU];simp[World.setCell]);have aMZ:∀q,q≠W.heap.size+1->w3.heap[q]?=w2.heap[q]?:=λq hq=>(by rw[<-vU];exact gq hq);obtain⟨w4,vV,S4,IX,aX⟩:=af w3 (Zc #[(0:Int)] 3);have aQN:Bw W w4:=(((ai.seq ag).setCell (p:=⟨W.heap.size+1,0,none⟩) (by show W.heap.size<=W+1;omega) true) |> λh=>by rw[vU] at h;exact h.seq aX)
 have Ea:WlS W F bc fn w4 (λk=>False\/(W<=k/\k<w4)) (aFa fn) (List.replicate fn ⟨none,0,0⟩) (W.heap.size+1+1,0) 1 1:=by
  rw[e3,e2] at S4;refine⟨⟨ow3.bu λq hq=>?_,aKL.keep aX,sQ (n:=0) S4 zO,zP,akW.start hf0,λi x u hx hu=>?_,λq hq=>?_,λq hq=>?_,λq hq=>?_,λx hx q hq=>?_⟩,λq hq=>?_,λq hq=>?_,zO⟩
  ·obtain rfl:W=q:=zI hq;exact(aX.block _ zO).trans (aMZ _ zO)
  ·rw[List.getElem?_replicate] at hx
   split at hx
   ·obtain rfl:=zI hx;have h2:u=[]:=(List.mem_replicate.1 (SK hu)).2;rw[h2];exact ax.nil _ _ _ _ _
   cases hx
  ·obtain rfl:W=q:=zI hq;exact .inr ⟨zO,zO⟩
  ·obtain rfl:W+1=q:=zI hq;exact .inr ⟨zO,zO⟩
  ·obtain rfl:W+1+1=q:=zI hq;exact .inr ⟨zO,zO⟩
  ·rw[(List.mem_replicate.1 hx).2] at hq;cases hq
  ·rcases hq with hq | hq
   ·exact hq.elim
   exact hq
  refine aQN.block q ?_
  rcases hq with hq | rfl
  ·exact hFl q hq
  exact jA
 have hJ4:=h0 (λ_=>False) [] W w4 hJ (λ_ h=>h.elim) (zR _) (Qh aQN);obtain⟨st,bZ⟩:=zF (iJ ⟨a.names,a.spaces⟩);have hWP:azV a=as5 a st (fn+1) 0 (aFa fn):=(by unfold azV;rw[bZ,<-IU]);obtain⟨LW,c1',Z8,c3'⟩:=arZ ((ai.seq ag).block bc jA |>.trans Sc);have Qa:=arZ (ai.block bc jA |>.trans Sc);obtain⟨_,_,Qo,_⟩:=Qa
 have hFB:∀q,F q\/q=bc->q<W.heap.size/\¬X q:=λq hq=>by
  rcases hq with hq | rfl
  ·exact⟨hFl q hq,(hXF q hq).1⟩
  exact⟨jA,hXb⟩
 obtain⟨amx,H0,H1,HY,GZ,HJ4,HWP,sV⟩:=zK8 (aFX (e:=4) (ty:=48) underlying48 (λw=>by kernel_rfl) (W.heap.size+1) fn fn 0 hf0) (zH h0) (zH h1) (zH hY) (zH Ea) (zH hJ4) (zH hWP) (zH bZ);obtain⟨HFB,HSC,HN,HS,HT⟩:=zK5 (zH hFB) (zH Sc) (zH (hN.keep (F':=F) λq hq=>⟨hq,hFW q hq⟩)) (zH (hS.keep (F':=F) λq hq=>⟨hq,hFW q hq⟩)) (zH (hT.keep (F':=F) λq hq=>⟨hq,hFW q hq⟩));have HR:Hid (∀(i:Nat) (r:List Int) (h:Hdr),a.steps[i]?=r->hs0[i]?=h->aY W F 1 qf r h.A h.n):=zH λi r h hr hh=>(hR i r h hr hh).keep λq hq=>⟨hq,hFW q hq⟩;obtain⟨HLT,BR,HTL,HW3,HTN,wu⟩:=zJ6 aN AU htl vU htn hFl;clear h0 h1 hY hJ hB Ea hJ4 hWP bZ hFB hN hS hT hR aN AU htl htn hFW hk S1 S2 ow3 ow4 aKL aMZ CZ hFl hXF IU Sc S4;refine callsIn_of_wp func150 rfl trivial ?_ rfl;simp only[ntmps150,YV,z9,z24,Nat.reduceAdd,Nat.reduceSub,Ze,Zd,List.push_toArray,ZD,d6,m7];gi_wp2
 gi_loopw [5,6] (λs5 s6 wr=>∃(k:Nat) (T:Nat->Prop) (d:KG) (hs:List Hdr) (A5:Option Addr) (n5 c5:Nat) (pre:List WdX),s5= (A5,n5,c5)/\s6= k/\k<=n5/\J T pre wr/\WlS W F bc fn wr T d hs A5 n5 c5/\Hid (azV a=pre.map al1++as5 a st (fn+1 - k) k d))
  (λ_ s6 _=>fn+1 - (intOf s6).toNat)
 case atStart=>exact⟨0,_,_,_,_,1,1,[],rfl,rfl,zO,HJ4,GZ,zH (by rw[List.map_nil,d6];exact HWP)⟩
 obtain⟨k,T,d,hs,A5,n5,c5,pre,rfl,rfl,hk,zh,hWl,aKM⟩:=hrel;have hn5:n5=d.list.length:=(ax.azl hWl.m.l).1;have lQ:=hWl.m.ok.num;have SS:n5<=fn:=zO;clear c0 c1 c2 c3 LW c1' Z8 c3' Qo;by_cases Dt:k<n5
 rotate_left 1
 ·obtain rfl:k=n5:=zO;have hd:=zT2 (k<k);have hE:as5 a st (fn+1 - k) k d=[]:=aPk a st _ k (by rw[JT];omega);have HJE:Hid (pre.map al1=azV a/\J T pre wr):=zH ⟨by rw[aKM.out,hE,m8],zh⟩;clear zh hWl hE hn5 lQ;gi_wp2;refine bodyPost_end (results_none rfl _ _ _) rfl ?_;exact⟨⟨_,rfl⟩,.inl ⟨_,_,HJE.1,HJE.2⟩⟩
 have hd:=zT1 (k<n5);obtain⟨g5,s,yD,-,-,fJ,aBY⟩:=hWl.m.l.abr hn5.symm Dt;have aA2:s<fn:=hWl.m.ok.lt s (SK yD);obtain⟨Aw,mw,cw,u,hhx,hu,Z4,hAf⟩:=hWl.m.word hf1 aA2;have hcw:wr.cell? (W,s)=(Aw,mw,cw):=ax.at1 hWl.m.w hhx;have aYe:=aFX (e:=37) (ty:=30) underlying30 (λw=>by kernel_rfl) W fn fn s aA2;obtain⟨r,hr⟩:∃r,a.steps[s]?=some r:=⟨_,z6 (by rw[HTL.out];exact aA2)⟩
 have wS:as5 a st (fn+1 - k) k d=(s,u)::as5 a st (fn - k) (k+1) (aFf st s r 0 d):=by
  rw[show fn+1 - k=(fn - k)+1 by omega,aPj a st _ k yD,hu,hr];rfl
 have Gn:(pre++[(⟨s,u,Aw,mw,cw⟩:WdX)]).map al1<+:azV a:=by
  rw[aKM.out,wS,Qb];exact⟨as5 a st (fn - k) (k+1) (aFf st s r 0 d),by simp[al1]⟩
 have aQO:Hid (azV a=(pre++[(⟨s,u,Aw,mw,cw⟩:WdX)]).map al1++as5 a st (fn - k) (k+1) (aFf st s r 0 d)):=zH (by rw[aKM.out,wS,Qb];simp[al1]);obtain⟨f2,t2,a2,b2,jW,vI⟩:=HY (n - 1) T pre ⟨s,u,Aw,mw,cw⟩ wr zh Gn Z4 hWl.tb hWl.sz;obtain⟨aQP,aM0⟩:=zF (pre++[(⟨s,u,Aw,mw,cw⟩:WdX)]);rw[aM0] at vI Gn aQO;obtain⟨ahI,HWL,Ff⟩:=zJ3 Gn hWl hr;simp only[aQM] at jW;clear Gn wS zh hWl Z4 hAf hhx hu hr hn5 lQ aM0;gi_wp2;refine⟨(λh=>by cases h),vI.mono ?_⟩;rintro e w6 (⟨rfl,hJ6,uX⟩ | ⟨rfl,hx6⟩)
 rotate_left 1
 ·have HX6:=zH hx6;clear vI jW hx6;gi_wp2;refine Qg (results_none rfl _ _ _) rfl ?_;exact⟨⟨_,rfl⟩,.inr ⟨_,ahI,HX6⟩⟩
 have aFY:=HWL.kept HFB uX;obtain⟨c0,c1,c2,c3⟩:=arZ ((aFY.f bc (.inr rfl)).trans HSC);obtain⟨a0e,oT,hx,HHX,hcT,aYf⟩:=(HT.keep (F':=F) λq hq=>⟨hq,aFY.f q (.inl hq)⟩).hdr (i:=s) (by rw[HTN.out];exact aA2) tc;obtain⟨hA,hl,hc⟩:=hx;have aI:=HR s r _ Ff HHX;simp only at aI;simp only[Hdr.v] at hcT;have AU:=BR r (SK Ff);have hll:hl=r.length:=aI.1;have hhl:hl<1000000:=zO;obtain⟨lM,aUQ,HJ6⟩:=zJ3 aI aFY hJ6;have aUR:Hid (∀v∈r,v<(fn:Int)):=zH (HLT r (SK Ff));have HLL:=zH hll;clear vI jW hJ6 uX aFY aI AU hll fJ aBY hcw;gi_wp2
 gi_loopw [5,45] (λs5 s45 wq=>∃(i:Nat) (T':Nat->Prop) (d':KG) (Af:List Hdr) (A5:Option Addr) (m5 c5:Nat),s5= (A5,m5,c5)/\s45= i/\i<=hl/\n5<=m5/\J T' aQP wq/\WlS W F bc fn wq T' d' Af A5 m5 c5/\Hid (aFf st s r 0 d=aFf st s (r.drop i) i d'))
  (λ_ s45 _=>hl - (intOf s45).toNat)
 case atStart=>exact⟨0,_,_,_,_,_,_,rfl,rfl,zO,zR _,HJ6,aUQ,zH rfl⟩
 obtain⟨i,T',d',Af,B5,m5,d5,rfl,rfl,hi,aQQ,hJq,hWq,aM1⟩:=hrel;clear c0 c1 c2 c3 hcT;by_cases EC:i<hl
 rotate_left 1
 ·obtain rfl:i=hl:=zO;have sZ:=zT2 (i<i);have hE:aFf st s r 0 d=d':=(by rw[aM1.out,z14 (by rw[HLL.out];exact zR _)];rfl);obtain⟨HWQ,HJQ,HE⟩:=zJ3 hWq hJq hE;clear hWq hJq hE;gi_wp2;go_roundw
  case rel=>exact⟨k+1,T',d',Af,B5,m5,d5,aQP,rfl,by go_num,zO,HJQ,HWQ,zH (by rw[aQO.out,HE.out,show fn+1 - (k+1)=fn - k by omega])⟩
  simp[intOf];omega
 have sZ:=zT1 (i<hl);obtain⟨br,ort,t,HTX,hcr,aYg⟩:=(lM.keep (F':=F) λq hq=>⟨hq,hWq.f q (.inl hq)⟩).int EC hc;have htl:=aUR t (SK HTX);have aKN:=aM1.out;rw[aPl st s HTX] at aKN;have aQR:=zH aKN;clear aKN;by_cases ht0:0<=t
 rotate_left 1
 ·have Ef:=zT2 (0<=t);have hno:=aS9 st s i (d:=d') (t:=t) (λh=>ht0 h.1);obtain⟨HNO,HWQ,HJQ⟩:=zJ3 hno hWq hJq;clear hno hWq hJq;gi_wp2;go_roundw
  case rel=>exact⟨i+1,T',d',Af,B5,m5,d5,rfl,by go_num,zO,aQQ,HJQ,HWQ,zH (by rw[aQR.out,HNO.out])⟩
  simp[intOf];omega
 obtain⟨t,rfl⟩:∃m:Nat,t=m:=⟨t.toNat,zO⟩;have aoP:t<fn:=zO;have Ef:=zT1 (0<=(t:Int));obtain⟨sb,Zo⟩:∃b,d'.seen[t]?=some b:=⟨_,z6 (by rw[hWq.m.ok.seen];exact aoP)⟩;have aYh:=ax.at1 hWq.m.s Zo;have aYi:=aFX (e:=4) (ty:=48) underlying48 (λw=>by kernel_rfl) (W.heap.size+1) fn fn t aoP
 cases sb with
 | true=>
   have hno:=aS9 st s i (d:=d') (t:=(t:Int)) (λh=>by have h2:=h.2;rw[Int.toNat_natCast,Zo] at h2;cases h2);obtain⟨HNO,HWQ,HJQ⟩:=zJ3 hno hWq hJq;clear hno hWq hJq Zo;gi_wp2;go_roundw
   case rel=>exact⟨i+1,T',d',Af,B5,m5,d5,rfl,by go_num,zO,aQQ,HJQ,HWQ,zH (by rw[aQR.out,HNO.out])⟩
   simp[intOf];omega
 | false=>
   have bY:=hWq.sz;have aYj:bc<W:=jA;obtain⟨aUN,aYk,apI,aKO⟩:=hWq.m.aM4 aoP;obtain⟨Ax,mx,cx,v,hhx,hv,Z4,hAf⟩:=hWq.m.word hf1 aA2;have l9:mx<1000000:=Z4.2.2;obtain⟨w7,JX⟩:=zF (wr.setCell (W.heap.size+1,t) true);rw[JX] at apI aKO;have e7:w7.heap.size=wr:=(by rw[<-JX];simp[World.setCell]);have dD:=hWq.m.ne (q3:=W) (q4:=W.heap.size+1) rfl rfl;have vP:ax w7 W 23 2 dK v (Ax,mx,cx):=(hWq.m.r s _ v hhx hv).bu λq hq=>apI q (dD.2.2 s _ v q hhx hv hq).2;obtain⟨Ay,cy,ee,hrv,-,-⟩:=vP.row (λ_=>rfl) zD;obtain⟨ea,eb,ec⟩:=z19 ee;subst ea ec;rw[<-eb] at hrv
   have aKP:ax w7 W 37 1 (λx:Hdr=>[x.v]) Af (W,0,fn,fn):=hWq.m.w.bu λq hq=>by
    obtain rfl:W=q:=zI hq;exact apI _ zO
   have aUS:w7.drew.cell? (W,s)=(Ax,mx,cx):=ax.at1 aKP hhx;have aKQ:w7.heap[bc]?=Zc #[(nA,nn,nc),(sA,sn,sc),(fA,fn,fc),(tA,tn,tc)] 51:=(apI bc zO).trans ((hWq.f bc (.inr rfl)).trans HSC);obtain⟨c0,c1,c2,c3⟩:=arZ aKQ;have hF7:∀q,F q->w7.heap[q]?=W.heap[q]?:=λq hq=>(apI q (by have:=wu q hq;omega)).trans (hWq.f q (.inl hq));have aYl:=aFX (e:=37) (ty:=30) underlying30 (λw=>by kernel_rfl) W fn fn t aoP;have hCL:=aTB v Ax mx cx w7.drew (show aY w7.drew (· <w7) 2 dK v Ax mx from hrv.imp λq hq=>hq.2) hAf l9
   have aUT:Hid (∀V,Bw w7 V->Rt 89 #[.agg #[(nA,nn,nc),(sA,sn,sc),(fA,fn,fc),(tA,tn,tc)],i] V (.agg #[(st i).1,(st i).2])):=zH λV hV=>by
    have hV':∀q,F q->q<V.heap.size/\V.heap[q]?=W.heap[q]?:=λq hq=>by
       have h1:=wu q hq;have h2:=hV.size;exact⟨zO,(hV.block q zO).trans (hF7 q hq)⟩
    rw[<-sV.out];exact aRH ⟨a.names,a.spaces⟩ i nA nn nc sA sn sc fA fn fc tA tn tc V (HN.keep hV') (HS.keep hV') JC Di zO
   obtain⟨vJ,HWQ,HJQ,aQS,aYm,aYc,aQT,HHX⟩:=zJ8 hCL hWq hJq aKP aKO apI aKQ hhx;obtain⟨HV,uT,HNE⟩:=zJ3 hv Zo dD;have Ee:Hid (v.length<1000000):=zH zO;have aFZ:Hid (∀V,Bw w7 V->V.cell? (W,s)=(Ax,mx,cx)/\V.cell? bc=(nA,nn,nc)/\V.cell? (bc,1)=(sA,sn,sc)/\V.cell? (bc,2)=(fA,fn,fc)/\V.cell? (bc,3)=(tA,tn,tc)):=zH λV hV=>⟨ax.at1 (aQS.keep hV) HHX,arZ (ae aQT hV)⟩;have hHeld:=aFZ w7.drew (j9 _ _).drew;have aYn:prog.follows .mixedOrders=true:=zS2;clear hCL hWq hJq aKP aKO apI aKQ hhx hv Zo dD hrv vP Z4 hAf hF7 aUS ee eb;gi_wp2;refine aP.start (λV=>V.cell? (W,s)=(Ax,mx,cx)/\V.cell? bc=(nA,nn,nc)/\V.cell? (bc,1)=(sA,sn,sc)/\V.cell? (bc,2)=(fA,fn,fc)/\V.cell? (bc,3)=(tA,tn,tc)) 13 zK ?_;refine aP.tk 0 13 [] hHeld ?_;refine aP.tk 1 13 [] hHeld ?_;refine aP.tk 2 13 [] hHeld ?_;refine aP.tk 3 13 [] hHeld ?_;refine aP.tk 4 13 [] hHeld ?_;refine aP.tk 5 13 [] hHeld ?_;refine aP.tk 7 13 [] hHeld ?_;refine aP.tk 8 13 [] hHeld ?_;refine aP.on 6 λK hK=>?_;go_simp;refine⟨trivial,(λh=>by cases h),?_⟩;gi_at_call 151;refine (t6.2 vJ).mono ?_;rintro e w8 ⟨v8,rfl,MJ,eX⟩;have aQU:Bw w7 w8:=⟨eX.os,eX.tape,eX.output,eX.size,eX.block⟩;obtain⟨B8,d8,rfl⟩:=MJ.form;obtain⟨n8,UW⟩:=zF v.length;have hH8:=aFZ w8 aQU;obtain⟨HO8,aQV⟩:=zJ2 MJ aQU;clear MJ eX hHeld;rw[UW] at HO8 ⊢;refine di hK (λ_=>hH8) ?_;clear hK K;refine aP.on 9 λK hK=>?_;go_simp;refine⟨trivial,(λh=>by cases h),?_⟩;gi_at_call 89;refine (t6.2 (aUT w8 aQV)).mono ?_;rintro e w9 ⟨rfl,uF⟩;have aKR:Bw w7 w9:=aQV.seq uF;have hH9:=aFZ w9 aKR;obtain⟨aUU,aYo⟩:=zJ2 uF aKR;clear uF hH8;refine di hK (λ_=>hH9) ?_;clear hK K;refine aP.on 10 λK hK=>?_;obtain⟨oH,aJi,S10,aBS,Gp⟩:=af w9 (Zc #[(st i).1,(st i).2] 23);have avA:Bw w7 oH:=aKR.seq Gp;have aUV:=aFZ oH avA;go_simp;refine di hK (λ_=>aUV) ?_;clear hK K;refine aP.on 11 λK hK=>?_;have aQW:ax oH w7 23 2 dK v (B8,n8,d8):=HO8.keep (aUU.seq Gp);obtain⟨v11,KI,bG,aQX,aUW,aYd⟩:=aaN oH w7 v _ aQW w9 1 (st i) (VU S10) (by have:=Ee.out;omega) avA.size 37;obtain⟨B11,d11,rfl⟩:=aQX.form;obtain⟨n11,YY⟩:=zF ((v++[st i]).length);rw[YY] at bG aQX;have aM2:∀q,q<w7.heap.size->KI.heap[q]?=oH.heap[q]?:=λq hq=>aUW.block q (by have:=avA.size;omega) (λe=>by have:=(aQW.block_lt e.symm).1;omega)
   have aA4:ax KI W 37 1 (λx:Hdr=>[x.v]) Af (W,0,fn,fn):=(aQS.keep avA).bu λq hq=>by
    obtain rfl:W.heap.size=q:=zI hq;exact aM2 _ zO
   have aQY:KI.heap[bc]?=Zc #[(nA,nn,nc),(sA,sn,sc),(fA,fn,fc),(tA,tn,tc)] 51:=(aM2 bc zO).trans (ae aQT avA);obtain⟨g',cap',ee,-,-,-,aYp,⟨u3,hu3⟩,-,aDK⟩:=aA4.aWN (i:=t) (by rw[HWQ.m.hl];exact aoP) ⟨B11,n11,d11⟩ (ty:=30) underlying30 (λw=>by kernel_rfl);simp only[i6,l5,Addr.mk.injEq,and_true,true_and] at ee;obtain⟨rfl,-,-⟩:=ee;refine Jn (.tmp 68) (.tmp 72) 37 rfl zL rfl rfl bG ?_;refine di hK (λ_=>⟨ax.at1 aA4 HHX,arZ aQY⟩) ?_;clear hK K;refine aP.acF 12 (λ_=>⟨ax.at1 aA4 HHX,arZ aQY⟩) ?_;refine aP.oe 13 ?_;(try simp only[Act.put,dG,dH,dI]);refine aP.dn ?_;obtain⟨KJ,aCc⟩:=zF (KI.setCell (W,t) (B11,n11,d11));have aNj:ax KJ W 37 1 (λx:Hdr=>[x.v]) (Af.set t ⟨B11,n11,d11⟩) (W,0,fn,fn):=(by rw[<-aCc];exact aDK);have e12:KJ.heap.size=KI:=(by rw[<-aCc];simp[World.setCell]);have avZ:∀q,q≠W.heap.size->KJ.heap[q]?=KI.heap[q]?:=λq hq=>(by rw[<-aCc];exact gq hq);have aYI:oH.heap.size<=KI:=aUW.size;have aYK:w7.heap.size<=oH:=avA.size;obtain⟨wB,aI8,S13,aCW,jX⟩:=af KJ (Zc #[t] 3);have aEf:∀q,q<wr.heap.size->q≠W.heap.size->q≠W.heap.size+1->wB.heap[q]?=wr.heap[q]?:=λq h1 h2 h3=>(jX.block q zO).trans ((avZ q h2).trans ((aM2 q zO).trans ((avA.block q zO).trans (aYc q h3))));have aK5:ax wB W 3 1 aV d'.list (B5,m5,d5):=HWQ.m.l.bu λq hq=>aEf q (HWQ.tb q (HWQ.m.tl q hq)).2 (HNE.2.1 q hq).1 (HNE.2.1 q hq).2;have hm5:m5=d'.list.length:=(ax.azl aK5).1;have rY:=HWQ.m.ok.num;have aRc:=(ax.azl (sQ (n:=t) (base:=KJ) S13 (zR _))).2;obtain⟨C14,n14,c14,w14,aK4,aw5,akT,aNk⟩:=EF wB W d'.list [t] B5 m5 d5 aK5 KJ 1 1 _ aRc zS1 zO 58;have aVf:n14=d'.list.length+1:=(by have:=(ax.azl aw5).1;rw[z5,TQ] at this;exact this);have aYJ:wB.heap.size<=w14:=akT.size;have aRf:∀q,(Value.slice B5 m5 d5).ownBlock=some q->q<wr.heap.size:=λq hq=>(HWQ.tb q (HWQ.m.tl q hq)).2
   have aNl:=HWQ.step (λq hq=>(HFB q hq).1) (w':=w14) (s:=s) (x:=i) (t:=t) (st:=st) (u:=v) (y:=⟨B11,n11,d11⟩) (B5:=C14) (m5:=n14) (d5:=c14) aoP uT HV zO
    (λq h1 h2 h3 h4=>(akT.block q zO (λe=>h4 e.symm)).trans (aEf q h1 h2 h3))
    (aNj.bu λq hq=>by
       obtain rfl:W.heap.size=q:=zI hq
       exact(akT.block _ zO (λe=>(HNE.2.1 _ e.symm).1 rfl)).trans (jX.block _ zO))
    (aYm.bu λq hq=>by
       obtain rfl:W+1=q:=zI hq
       exact(akT.block _ zO (λe=>(HNE.2.1 _ e.symm).2 rfl)).trans ((jX.block _ zO).trans ((avZ _ zO).trans ((aM2 _ zO).trans (avA.block _ zO)))))
    aw5 (by
       rcases aNk with h | h
       ·exact .inl h
       exact .inr ⟨_,h,zO,(aw5.block_lt h).2⟩)
    (ax.low (aQX.bu λq hq=>by
       have h1:=aQX.block_lt hq
       exact(akT.block q zO (λe=>by have:=aRf q e.symm;omega)).trans ((jX.block q zO).trans (avZ q zO))) zO)
    (λq hq=>by have h1:=aQX.block_lt hq;omega)
   have k1:Kept (λq=>T' q\/wr<=q) wr w7:=(by rw[<-JX];exact(Kept.refl _ wr).setCell (p:=(W.heap.size+1,t)) (.inl (.inl (HWQ.m.ts _ rfl))) _);have k2:Kept (λq=>T' q\/wr<=q) w7 oH:=Qh avA;have k3:Kept (λq=>T' q\/wr<=q) oH KI:=⟨aUW.os,aUW.tape,aUW.output,aUW.size,λq hq hn=>aUW.block q hq (λe=>hn (.inr (by have:=(aQW.block_lt e.symm).1;omega)))⟩;have k4:Kept (λq=>T' q\/wr<=q) KI KJ:=(by rw[<-aCc];exact(Kept.refl _ KI).setCell (p:=(W,t)) (.inl (.inl (HWQ.m.tw _ rfl))) _);have k5:Kept (λq=>T' q\/wr<=q) KJ wB:=Qh jX;have k6:Kept (λq=>T' q\/wr<=q) wB w14:=⟨akT.os,akT.tape,akT.output,akT.size,λq hq hn=>akT.block q hq (λe=>hn (.inl (HWQ.m.tl q e.symm)))⟩;have kA:=((((k1.trans k2).trans k3).trans k4).trans k5).trans k6;have anK:Kept T' wr w14:=⟨kA.os,kA.tape,kA.output,kA.size,λq hq hn=>kA.block q hq (by rintro (h | h);exact hn h;omega)⟩;have aRg:=H0 T' aQP wr w14 HJQ HWQ.tb HWQ.sz anK;obtain⟨aVg,aRi,aRh⟩:=zJ3 aRg aNl aK4;have aVh:=zH (show n5<=n14 by omega);clear aRg aNl aK4 k1 k2 k3 k4 k5 k6 kA anK aRc aK5 aw5 akT aNk hm5 rY aVf aRf aEf avZ aDK aNj aQX aUW aYd aQW aM2 S13 S10 aQY aA4 bG e12 e7 aYJ;rw[aCc]
   gi_wp2_with (refine XT ?_;refine zt rfl (.tmp 75) (.tmp 77) 58 rfl rfl rfl aRh ?_)
   go_roundw
   case rel=>exact⟨i+1,_,_,_,C14,n14,c14,rfl,by go_num,zO,aVh,aVg,aRi,zH (by rw[aQR.out])⟩
   simp[intOf];omega
