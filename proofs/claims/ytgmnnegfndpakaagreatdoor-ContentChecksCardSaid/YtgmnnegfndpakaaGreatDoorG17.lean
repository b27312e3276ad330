import Derived.Test.YtgmnnegfndpakaaGreatDoorG16
import Derived.Carry
set_option maxHeartbeats 20000000
set_option maxRecDepth 100000
namespace Go.Proofs.YtgmnnegfndpakaaGreatDoor
open Go Go.RowKit
noncomputable def Hr(elems:List (List Nm))(p:aJ):Bool:=
 if p.kind=1 then decide (0<(elemAt elems p.el).length)
 else !(IK (jF p.cls) (!(TF (ahc 0 p.cls p.cls) (jP [p.cls,p.cls] ([],[])))))&&decide (jF p.cls=0)
def QI(t s:Nat):List (Nat×List Nat)->List (Nat×List Nat)
 | []=>[(t,[s])]
 | (t',l)::r=>if t=t' then (t',l++[s])::r else (t',l)::QI t s r
def fZ(t:Nat):List (Nat×List Nat)->List Nat
 | []=>[]
 | (t',l)::r=>if t=t' then l else fZ t r
structure CQ where
 list:List Nat
 back:List (Nat×List Nat)
noncomputable def oq(m:eQ)(s:Nat)(st:CQ)(x:Stp):CQ:=
 if Hr m.elems x.leaf then ⟨if x.dst∈st.list then st.list else st.list++[x.dst],QI x.dst s st.back⟩ else st
noncomputable def axL(m:eQ)(s:Nat)(st:CQ):CQ:=(gK m s).foldl (oq m s) st
noncomputable def QJ(m:eQ):Nat->Nat->CQ->CQ
 | 0,_,st=>st
 | f+1,k,st=>match st.list[k]? with
   | some s=>QJ m f (k+1) (axL m s st)
   | none=>st
def lU(st:List Nat×List Nat)(t:Nat):List Nat×List Nat:=if t∈st.1 then st else (st.1++[t],st.2++[t])
def drain(back:List (Nat×List Nat)):Nat->List Nat×List Nat->List Nat×List Nat
 | 0,st=>st
 | f+1,st=>match st.2.getLast? with
   | some s=>drain back f ((fZ s back).foldl lU (st.1,st.2.dropLast))
   | none=>st
def uf(m:eQ):Nat:=m.places.length+1+4 ^ m.all.length
noncomputable def gB(m:eQ):CQ:=QJ m (uf m+1) 0 ⟨[0],[]⟩
noncomputable def aao(m:eQ):List Nat:=
 (drain (gB m).back (uf m+1) ((gB m).list.filter (wH m),(gB m).list.filter (wH m))).1
def EX(set live:List Nat):Bool:=set.any λs=>decide (s∈live)
def qA(m:eQ)(set:List Nat):Bool:=set.any (wH m)
def kN(elems:List (List Nm))(p:aJ):Int:=
 if 60<elems.length\/elems.any badL=true then 2
 else if IG p=true then 3
 else if (bU p.mn p.mx&&bT elems.length true p)=false then 2
 else if p.kind≠5/\200<dC p then 3 else 0
def QK(m:eQ)(live:List Nat):List Nm->Nat->List Nat->Bool×Nat
 | [],i,set=>(qA m set,i)
 | n::w,i,set=>if EX (lZ m set n) live then QK m live w (i+1) (lZ m set n) else (false,i)
noncomputable def Fp(p:aJ)(elems:List (List Nm))(w:List Nm):Bool×Nat×Int:=
 if kN elems p≠0 then (false,0,kN elems p)
 else if 300<w.length then (false,0,3)
 else if w.any oZ then (false,0,2)
 else ((QK (eU elems p) (aao (eU elems p)) w 0 [0]).1,(QK (eU elems p) (aao (eU elems p)) w 0 [0]).2,0)
noncomputable def NF(m:eQ)(live:List Nat)(s:Nat):List Nat:=((gK m s).filter λx=>decide (x.dst∈live)&&Hr m.elems x.leaf).map (·.num)
noncomputable def TG(p:aJ)(elems:List (List Nm))(w:List Nm):List Nat×Bool×Int:=
 if kN elems p≠0 then ([],false,kN elems p)
 else if 300<w.length then ([],false,3)
 else if w.any oZ then ([],false,2)
 else if EX (w.foldl (lZ (eU elems p)) [0]) (aao (eU elems p))=false then ([],false,4)
 else (sset ((w.foldl (lZ (eU elems p)) [0]).flatMap (NF (eU elems p) (aao (eU elems p)))),qA (eU elems p) (w.foldl (lZ (eU elems p)) [0]),0)
structure Bd (b m n:Nat) (r:List aU×dR):Prop where
 len:r.1.length=b+n
 qI:∀i q,b<=i->r.1[i]?=some q->q.follow.length<=m
 fl:r.2.first.length<=n
 ll:r.2.last.length<=n
 nd:r.2.last.Nodup
theorem afE(f:List Nat):∀(l:List Nat) (pl:List aU) (k:Nat),l.Nodup->k∈l->(l.foldl (λpl i=>tZ pl f i) pl)[k]?=(pl[k]?).map λq=>{ q with follow:=q.follow++f }
 | [],_,_,_,h=>by simp at h
 | i::l,pl,k,hn,h=>by
   rw[List.nodup_cons] at hn;rw[List.foldl_cons];by_cases e:i=k
   ·subst e
    rw[Vl f l _ _ hn.1,Bo,if_pos rfl]
   ·rcases List.mem_cons.1 h with h | h
    ·exact absurd h.symm e
    ·rw[afE f l _ _ hn.2 h,Bo,if_neg e]
theorem Ht{pl:List aU}{x y:dR}(hn:x.last.Nodup){i:Nat}{q:aU}(h:(dB pl x y)[i]?=some q):∃q0,pl[i]?=some q0/\q.follow.length<=q0.follow.length+(if i∈x.last then y.first.length else 0):=by
 by_cases hi:i∈x.last
 ·rw[if_pos hi]
  unfold dB at h;rw[afE _ _ _ _ hn hi] at h
  cases hq:pl[i]? with
  | none=>rw[hq] at h;cases h
  | some q0=>
    rw[hq] at h;obtain rfl:=zI h;exact⟨q0,rfl,zP⟩
 ·rw[Fq hi] at h
  exact⟨q,h,zO⟩
theorem Bd.up{b m m' n:Nat}{r:List aU×dR}(h:Bd b m n r)(hm:m<=m'):Bd b m' n r:=⟨h.len,λi q hi hq=>zT (h.qI i q hi hq) hm,h.fl,h.ll,h.nd⟩
theorem QM{a b:List Nat}(ha:a.Nodup)(hb:b.Nodup)(h:∀x∈a,x ∉ b):(a++b).Nodup:=List.nodup_append.2 ⟨ha,hb,λx hx y hy e=>h x hx (e ▸ hy)⟩
section
variable {b m n m' n':Nat} {pl0:List aU} {x y:List aU×dR} {L M:List LI->Prop}
theorem Bd.cat(hx:Made b pl0 x L)(hy:Made x.1.length x.1 y M)(h1:Bd b m n x)(h2:Bd x.1.length m' n' y):Bd b (max m m'+n') (n+n') (dB y.1 x.2 y.2,fG x.2 y.2):=by
 have hd:∀i∈x.2.last,i<x.1.length:=λi hi=>(hx.ok.fF.last i hi).2;have jc:∀i∈y.2.last,x.1.length<=i:=λi hi=>(hy.ok.fF.last i hi).1;refine⟨by show (dB _ _ _).length=_;rw[mf,h2.len,h1.len];omega,λi q hi hq=>?_,?_,?_,?_⟩
 ·obtain⟨q0,g1,g2⟩:=Ht h1.nd hq
  have g3:(if i∈x.2.last then y.2.first.length else 0)<=n':=by split;exact h2.fl;omega
  rcases Nat.lt_or_ge i x.1.length with aN | jT
  ·rw[hy.pre i aN] at g1
   have:=h1.qI i q0 hi g1;omega
  ·have:=h2.qI i q0 jT g1
   omega
 ·show (x.2.first++_).length<=_
  have a1:=h1.fl;have a2:=h2.fl;rw[z5]
  split<;>simp<;>omega
 ·show (y.2.last++_).length<=_
  have a1:=h1.ll;have a2:=h2.ll;rw[z5]
  split<;>simp<;>omega
 ·show (y.2.last++_).Nodup
  refine QM h2.nd (by split;exact h1.nd;exact List.nodup_nil) λi hi hj=>?_;have:=jc i hi
  split at hj
  ·have:=hd i hj;omega
  ·simp at hj
theorem Bd.cat'(hx:Made b pl0 x L)(hy:Made x.1.length x.1 y M)(h1:Bd b m n x)(h2:Bd x.1.length m' n' y):Bd b (max m m'+n) (n+n') (dB y.1 y.2 x.2,fG y.2 x.2):=by
 have hd:∀i∈x.2.last,i<x.1.length:=λi hi=>(hx.ok.fF.last i hi).2;have jc:∀i∈y.2.last,x.1.length<=i:=λi hi=>(hy.ok.fF.last i hi).1;refine⟨by show (dB _ _ _).length=_;rw[mf,h2.len,h1.len];omega,λi q hi hq=>?_,?_,?_,?_⟩
 ·obtain⟨q0,g1,g2⟩:=Ht h2.nd hq
  have g3:(if i∈y.2.last then x.2.first.length else 0)<=n:=by split;exact h1.fl;omega
  rcases Nat.lt_or_ge i x.1.length with aN | jT
  ·rw[hy.pre i aN] at g1
   have:=h1.qI i q0 hi g1;omega
  ·have:=h2.qI i q0 jT g1
   omega
 ·show (y.2.first++_).length<=_
  have a1:=h1.fl;have a2:=h2.fl;rw[z5]
  split<;>simp<;>omega
 ·show (x.2.last++_).length<=_
  have a1:=h1.ll;have a2:=h2.ll;rw[z5]
  split<;>simp<;>omega
 ·show (x.2.last++_).Nodup
  refine QM h1.nd (by split;exact h2.nd;exact List.nodup_nil) λi hi hj=>?_;have:=hd i hi
  split at hj
  ·have:=jc i hj;omega
  ·simp at hj
theorem Bd.or(hx:Made b pl0 x L)(hy:Made x.1.length x.1 y M)(h1:Bd b m n x)(h2:Bd x.1.length m' n' y):Bd b (max m m') (n+n') (y.1,⟨x.2.first++y.2.first,x.2.last++y.2.last,x.2.empty||y.2.empty⟩):=by
 refine⟨by show y.1.length=_;rw[h2.len,h1.len];omega,λi q hi hq=>?_,?_,?_,?_⟩
 ·rcases Nat.lt_or_ge i x.1.length with aN | jT
  ·have hq':x.1[i]?=some q:=(hy.pre i aN).symm.trans hq
   have:=h1.qI i q hi hq';omega
  ·have:=h2.qI i q jT hq
   omega
 ·show (x.2.first++_).length<=_
  have a1:=h1.fl;have a2:=h2.fl;rw[z5];omega
 ·show (x.2.last++_).length<=_
  have a1:=h1.ll;have a2:=h2.ll;rw[z5];omega
 ·exact QM h1.nd h2.nd λi hi hj=>by
   have:=(hx.ok.fF.last i hi).2;have:=(hy.ok.fF.last i hj).1;omega
end
theorem Bd.nil(pl:List aU)(b:Bool):Bd pl.length 0 0 (pl,⟨[],[],b⟩):=⟨rfl,λi q hi hq=>by have:=(List.getElem?_eq_some_iff.1 hq).1;have:i<pl.length:=this;omega,zR _,zR _,List.nodup_nil⟩
theorem Yu{once:List aU->List aU×dR}{L:List LI->Prop}(ho:CS once L){mo c:Nat}(hb:∀pl,Bd pl.length mo c (once pl)){b:Nat}{pl0:List aU}:∀(k:Nat) {m n:Nat} {pl:List aU} {out:dR} {M:List LI->Prop},
 Made b pl0 (pl,out) M->Bd b m n (pl,out)->mo<=m->Bd b (m+k*c) (n+k*c) (kY once k pl out)
 | 0,m,n,pl,out,M,_,h,_=>by rw[kY,Nat.zero_mul];exact h
 | k+1,m,n,pl,out,M,h0,h,hm=>by
   rw[kY,Nat.succ_mul];have h1:=Bd.cat h0 (ho pl) h (hb pl);have h2:=Yu ho hb k (h0.cat (ho pl)) (h1.up (m':=m+c) zO) zO;rw[show m+(k*c+c)=m+c+k*c by omega,show n+(k*c+c)=n+c+k*c by omega];exact h2
theorem Yv{once:List aU->List aU×dR}{L:List LI->Prop}(ho:CS once L){mo c K:Nat}(hb:∀pl,Bd pl.length mo c (once pl)){b:Nat}{pl0:List aU}:∀(k:Nat) {m n:Nat} {pl:List aU} {tail:dR} {M:List LI->Prop},
 Made b pl0 (pl,tail) M->Bd b m n (pl,tail)->mo<=m->n+k*c<=K->Bd b (m+k*K) (n+k*c) (mY once k pl tail)
 | 0,m,n,pl,tail,M,_,h,_,_=>by rw[mY,Nat.zero_mul,Nat.zero_mul];exact h
 | k+1,m,n,pl,tail,M,h0,h,hm,hK=>by
   rw[Nat.succ_mul] at hK;rw[mY,Nat.succ_mul,Nat.succ_mul];have h1:=Bd.cat' h0 (ho pl) h (hb pl);have h1':=h0.cat' (ho pl);have h3:Made b pl0 (dB (once pl).1 (once pl).2 tail,{ fG (once pl).2 tail with empty:=true }) (λw=>w=[]\/qO L M w):=⟨h1'.base,h1'.pre,h1'.ok.opt⟩
   have h4:Bd b (m+K) (n+c) (dB (once pl).1 (once pl).2 tail,{ fG (once pl).2 tail with empty:=true }):=by
    have h5:=h1.up (m':=m+K) zO;exact⟨h5.len,h5.qI,h5.fl,h5.ll,h5.nd⟩
   have h2:=Yv (K:=K) ho hb k h3 h4 zO zO;rw[show m+(k*K+K)=m+K+k*K by omega,show n+(k*c+c)=n+c+k*c by omega];exact h2
theorem ajv{once:List aU->List aU×dR}{L:List LI->Prop}(ho:CS once L){mo c:Nat}(hb:∀pl,Bd pl.length mo c (once pl)){mn mx z:Int}(h0:0<=mn/\mn<=20)(hx:mx= -1\/(mn<=mx/\mx<=20))(hz:z=0->c*rep mn mx=0)(hc:c*rep mn mx<=200)(pl:List aU):
 Bd pl.length (mo+4800) (c*rep mn mx) (rH once mn mx z pl):=by
 unfold rH
 split
 ·rename_i h
  rw[hz h];exact(Bd.nil pl true).up zO
 ·obtain⟨k,hk⟩:∃k:Nat,mn.toNat=k:=⟨_,rfl⟩
  have h1:=JH ho k (Made.nil pl);have g1:=Yu ho hb k (Made.nil pl) ((Bd.nil pl true).up (m':=mo) zO) (zR _);rw[Nat.zero_add] at g1;simp only[hk];obtain⟨a,ha⟩:=zF (kY once k pl oN);have ha':kY once k pl ⟨[],[],true⟩=a:=ha;rw[ha] at h1 ⊢;rw[show oN=⟨[],[],true⟩ from rfl,ha'] at g1
  have aHR:k<=20:=by omega
  split
  ·rename_i hm
   have er:rep mn mx=k+1:=(by unfold rep;rw[if_pos hm,hk]);rw[er] at hc ⊢;have yP:=ho a.1;have dY:=hb a.1;obtain⟨bb,jm⟩:=zF (once a.1);rw[jm] at yP dY ⊢;have GN:k*c+c=c*(k+1):=(by rw[Nat.mul_comm c,Nat.succ_mul])
   have hs:Made a.1.length a.1 (dB bb.1 bb.2 bb.2,{ bb.2 with empty:=true }) (λw=>∃n,qP L n w):=by
    refine⟨by show _<=(dB _ _ _).length;rw[mf];exact yP.base,λi hi=>?_,yP.ok.star.wide λi=>?_⟩
    ·show (dB _ _ _)[i]?=_
     rw[Fq (λhm=>by have:=yP.ok.fF.last i hm;omega),yP.pre i hi]
    ·show _↔_/\i<(dB _ _ _).length
     rw[mf]
   have gs:Bd a.1.length (mo+c) c (dB bb.1 bb.2 bb.2,{ bb.2 with empty:=true }):=by
    refine⟨by show (dB _ _ _).length=_;rw[mf];exact dY.len,λi q hi hq=>?_,dY.fl,dY.ll,dY.nd⟩;obtain⟨q0,e1,e2⟩:=Ht dY.nd hq;have e3:=dY.qI i q0 hi e1;have e4:(if i∈bb.2.last then bb.2.first.length else 0)<=c:=(by split;exact dY.fl;omega);omega
   have hf:=Bd.cat h1 hs g1 gs;rw[GN] at hf;have aHS:k*c<=200:=(by omega);have hcb:c<=200:=(by omega);exact hf.up zO
  ·rename_i hm
   obtain⟨d,hd⟩:∃d:Nat,(mx - mn).toNat=d:=⟨_,rfl⟩;have aHT:d<=20:=(by omega);have er:rep mn mx=k+d:=(by unfold rep;rw[if_neg hm];omega);rw[er] at hc ⊢;have hkd:k*c+d*c=c*(k+d):=(by rw[Nat.mul_comm c,Nat.add_mul]);have h3:=JI ho d 0 ((Made.nil a.1).wJ (λw=>⟨λh=>⟨0,zR _,h⟩,λ⟨m,h1,h2⟩=>by obtain rfl:m=0:=Nat.le_zero.1 h1;exact h2⟩));have g3:=Yv ho (K:=200) hb d (Made.nil a.1) ((Bd.nil a.1 true).up (m':=mo) zO) (zR _) zO;rw[hd];rw[Nat.zero_add] at g3;have hf:=Bd.cat h1 h3 g1 g3;rw[hkd] at hf;exact hf.up zO
theorem amC(p:aJ)(hg:kR p=true):1<=rep p.mn p.mx:=by
 obtain⟨k',nI,mx',uo,c',pr',args'⟩:=p;obtain⟨⟨a1,a2,a3⟩,_⟩:=rJ hg;show 1<=rep nI mx';unfold rep
 split<;>omega
def ja(p:aJ):Nat:=(if fD p.kind then 1 else 0)+kF p.args
theorem Ij(p:aJ):lJ p=ja p*rep p.mn p.mx:=by cases p;exact Yt ..
theorem xJ(p:aJ)(hg:kR p=true):ja p<=lJ p:=by
 rw[Ij];have:=amC p hg
 calc ja p=ja p*1:=(Nat.mul_one _).symm
  _<=_:=Nat.mul_le_mul_left _ this
theorem IM{p:aJ}:∀{l:List aJ},p∈l->lJ p<=kF l
 | q::l,h=>by
   rw[kF]
   rcases List.mem_cons.1 h with rfl | h
   ·omega
   ·have:=IM h;omega
theorem Ur{p:aJ}(hg:kR p=true)(hn:dh p<=40)(hc:lJ p<=200){num mo:Nat}(hb:∀pl,Bd pl.length mo (ja p) (kL p num pl))(pl:List aU):Bd pl.length (mo+4800) (lJ p) (rH (kL p num) p.mn p.mx (dC p) pl):=by
 have Az:=Au p hg hn
 have hz:dC p=0->ja p*rep p.mn p.mx=0:=λh=>by rw[<-Ij];omega
 have ho:=wK p hg hn num;rw[Ij] at hc ⊢;obtain⟨k',nI,mx',uo,c',pr',args'⟩:=p;obtain⟨⟨a1,a2,a3⟩,_⟩:=rJ hg;exact ajv ho hb ⟨a1,a2⟩ (a3.imp id λh=>⟨h.1,h.2.2⟩) hz hc pl
theorem Ik:∀p:aJ,kR p=true->dh p<=40->ja p<=200->∀num pl,Bd pl.length (5200*(dh p - 1)) (ja p) (kL p num pl):=by
 intro p
 induction p using aJ.ind with
 | h k mn mx el c pr args ih=>
   intro hg hn hc num pl;obtain⟨_,h4⟩:=rJ hg;have yu:(if fD k then 1 else 0)+kF args<=200:=hc;show Bd pl.length _ ((if fD k then 1 else 0)+kF args) _;rw[dh] at hn;rw[kL,dh];by_cases hk:fD k=true
   ·rw[if_pos hk]
    obtain rfl:args=[]:=by
     rcases h4 with ⟨_,h⟩ | ⟨rfl,_⟩ | ⟨rfl,_⟩
     ·exact h
     ·cases hk
     ·cases hk
    simp only[hk,if_true,kF];refine⟨zP,λi q hi hq=>?_,zP,zP,zP⟩;have hi2:=(List.getElem?_eq_some_iff.1 hq).1;rw[z5,z16] at hi2;obtain rfl:i=pl.length:=(by omega);simp at hq;subst hq;simp
   ·rw[if_neg hk]
    have fM:fD k=false:=(by simpa using hk);simp only[fM,Bool.false_eq_true,if_false,Nat.zero_add] at yu ⊢
    have LZ:oz args=true:=by
     rcases h4 with ⟨h,_⟩ | ⟨_,h⟩ | ⟨_,_,h⟩
     ·exact absurd h hk
     ·exact h
     ·exact h
    have parts:∀q∈args,kR q=true->dh q<=40->∀num,CS (rH (kL q num) q.mn q.mx (dC q)) (Gg (rW q num) q.mn q.mx)/\∀pl:List aU,Bd pl.length (5200*dh q - 400) (lJ q) (rH (kL q num) q.mn q.mx (dC q) pl):=by
     intro q hq g n num;refine⟨xI g n num,λpl=>?_⟩;have hcq:lJ q<=200:=zT (IM hq) yu;have hh:=ih q hq g n (zT (xJ q g) hcq) num;have:=Eu q;exact(Ur g n hcq hh pl).up zO
    have key:∀(sq:Bool) (l:List aJ) (num:Nat) (pl:List aU) (out:dR) (b m n:Nat) (pl0:List aU) (M:List LI->Prop),(∀q∈l,q∈args)->oz l=true->dZ l<=40->kF l<=200->Made b pl0 (pl,out) M->Bd b m n (pl,out)->
     Bd b (m+5200*dZ l) (n+kF l) (pI sq l num pl out):=by
     intro sq l
     induction l with
     | nil=>intro num pl out b m n pl0 M _ _ _ _ _ h;rw[pI,dZ,kF];exact h
     | cons q l ihl=>
       intro num pl out b m n pl0 M hm hg hn hc h0 h;obtain⟨g1,g2⟩:=aap hg;rw[dZ] at hn;rw[kF] at hc;obtain⟨p1,p2⟩:=parts q (hm q zP) g1 zO num;rw[pI,dZ,kF];have hq:=Eu q
       cases sq with
       | true=>
         simp only[if_true];have a1:=Bd.cat h0 (p1 pl) h (p2 pl);have a2:=ihl (num+dh q) _ _ b _ _ pl0 _ (λq hq=>hm q (by simp[hq])) g2 zO zO (h0.cat (p1 pl)) (a1.up (m':=m+5200*dh q) zO);rw[show n+(lJ q+kF l)=n+lJ q+kF l by omega];exact a2.up zO
       | false=>
         simp only[Bool.false_eq_true,if_false];have a1:=Bd.or h0 (p1 pl) h (p2 pl);have a2:=ihl (num+dh q) _ _ b _ _ pl0 _ (λq hq=>hm q (by simp[hq])) g2 zO zO (h0.or (p1 pl)) (a1.up (m':=m+5200*dh q) zO);rw[show n+(lJ q+kF l)=n+lJ q+kF l by omega];exact a2.up zO
    have bZ:∃M,Made pl.length pl (pl,⟨[],[],decide (k=3)⟩) M:=by
     cases decide (k=3)
     ·exact⟨_,Made.never pl⟩
     ·exact⟨_,Made.nil pl⟩
    obtain⟨M,hM⟩:=bZ;have:=key (decide (k=3)) args (num+1) pl ⟨[],[],decide (k=3)⟩ pl.length 0 0 pl M (λq hq=>hq) LZ zO yu hM (Bd.nil pl _);rw[Nat.zero_add,Nat.zero_add] at this;rw[show 1+dZ args - 1=dZ args by omega];exact this
theorem Ez{p:aJ}(hg:kR p=true)(hn:dh p<=40)(hc:lJ p<=200)(num:Nat)(pl:List aU):Bd pl.length 208000 (lJ p) (fV p num pl):=
 (Ur hg hn hc (Ik p hg hn (zT (xJ p hg) hc) num) pl).up (by have:=Eu p;omega)
end Go.Proofs.YtgmnnegfndpakaaGreatDoor
namespace Go.Proofs.YtgmnnegfndpakaaGreatDoor
open Go.RowKit
theorem xK{κ β:Type}{P:Program}{ops:Array Oper}{rest:List Oper}{o:Oper}{a:Act}{Q:Exit->Act->World->Prop}{w:World}(uO:o.guard=none)(m x v:Operand)(mt:TypeId)(uQ:o.op= .insert mt m x v)
 {kt et:TypeId} {enc:κ->Value} {val:β->Value} {eq:κ->κ->Bool} (K:NM P kt enc eq) (hm:P.underlying mt=some (.map kt et)) (g:Nat) (l:List (κ×β)) (hs:a.eval m= .map (some g)) (h:gQ w g enc val l)
 (k:κ) (hk:a.eval x=enc k) (b:β) (hv:a.eval v=val b)
 (hK:∀w',gQ w' g enc val (jh eq k b l)->(∀b,b≠g->w'.heap[b]?=w.heap[b]?)->w'.heap.size=w.heap.size->Kept (· =g) w w'->wpList P ops Q rest (a.put o.dst undef) w'):wpList P ops Q (o::rest) a w:=by
 refine wpList_plain uO λK' hK'=>?_;obtain⟨w',hw,h1,h2,h3,h4⟩:=h.put (l':=jh eq k b l);have bG:=ED K hm h k b;rw[hw] at bG;unfold Oper.wp;simp[execOp,uQ,hs,hk,hv,bG,Result.andThen];exact hK' _ _ (hK w' h1 h2 h3 h4)
theorem Lc{κ β:Type}{P:Program}{ops:Array Oper}{rest:List Oper}{o:Oper}{a:Act}{Q:Exit->Act->World->Prop}{w:World}(uO:o.guard=none)(m x v:Operand)(mt:TypeId)(uQ:o.op= .mapUpdate mt m x v)
 {kt et:TypeId} {enc:κ->Value} {val:β->Value} {eq:κ->κ->Bool} (K:NM P kt enc eq) (hm:P.underlying mt=some (.map kt et)) (g:Nat) (l:List (κ×β)) (hs:a.eval m= .map (some g)) (h:gQ w g enc val l)
 (k:κ) (hk:a.eval x=enc k) (b:β) (hv:a.eval v=val b)
 (hK:∀w',gQ w' g enc val (jh eq k b l)->(∀b,b≠g->w'.heap[b]?=w.heap[b]?)->w'.heap.size=w.heap.size->Kept (· =g) w w'->wpList P ops Q rest (a.put o.dst undef) w'):wpList P ops Q (o::rest) a w:=by
 refine wpList_plain uO λK' hK'=>?_;obtain⟨w',hw,h1,h2,h3,h4⟩:=h.put (l':=jh eq k b l);have bG:=ED K hm h k b;rw[hw] at bG;unfold Oper.wp;simp[execOp,uQ,hs,hk,hv,bG,Result.andThen];exact hK' _ _ (hK w' h1 h2 h3 h4)
theorem gq{w:World}{g p i:Nat}{v:Value}(dD:g≠p):(w.setCell ⟨p,i,none⟩ v).heap[g]?=w.heap[g]?:=Below.heap_setCell w ⟨p,i,none⟩ v g dD
theorem lL.set{w:World}{b1 b2 b3 b4 gm:Nat}(h:lL w b1 b2 b3 b4 gm){g i:Nat}(v:Value)(n1:b1≠g)(n2:b2≠g)(n3:b3≠g)(n4:b4≠g)(n5:gm≠g):lL (w.setCell ⟨g,i,none⟩ v) b1 b2 b3 b4 gm:=
 ⟨dE n1 h.1,dE n2 h.2.1,dE n3 h.2.2.1,dE n4 h.2.2.2.1,h.2.2.2.2.keep (gq n5)⟩
theorem BN(w:World):Calls Tryz.prog 50 #[] w λe w'=>∃b1 b2 b3 b4 gm,e= .returned (.map (some gm))/\lL w' b1 b2 b3 b4 gm/\Bw w w'/\(w.heap.size<=b1/\w.heap.size<=b2/\w.heap.size<=b3/\w.heap.size<=b4/\w.heap.size<=gm):=by
 obtain⟨w1,bI,S1,nC,ai⟩:=af w (.cells #[.map none] 88);obtain⟨w2,mJ,S2,uS,ag⟩:=af w1 (.cells #[.func (.func 102) #[] #[]] 35);obtain⟨w3,vU,S3,su,az⟩:=af w2 (.cells #[.func (.func 104) #[] #[.pointer (some ⟨w.heap.size,0,none⟩)]] 71);obtain⟨w4,vV,S4,IX,aX⟩:=af w3 (.cells #[.func (.func 105) #[] #[.pointer (some ⟨w.heap.size+1+1,0,none⟩)]] 71);obtain⟨w5,pq,S5,IY,bg⟩:=af w4 (.map #[] 0)
 have e1:w1.heap.size=w.heap.size+1:=by rw[<-bI];simp
 have e2:w2.heap.size=w.heap.size+1+1:=by rw[<-mJ,World.size_alloc,e1]
 have e3:w3.heap.size=w.heap.size+1+1+1:=by rw[<-vU,World.size_alloc,e2]
 have e4:w4.heap.size=w.heap.size+1+1+1+1:=by rw[<-vV,World.size_alloc,e3]
 have e5:w5.heap.size=w.heap.size+1+1+1+1+1:=by rw[<-pq,World.size_alloc,e4]
 rw[e4] at S5;rw[e3] at S4;rw[e2] at S3;rw[e1] at S2;have M0:Hid (gQ w5 (w.heap.size+1+1+1+1) vM WT []):=zH S5;have aQ:=zH (ae S1 (ag.seq (az.seq (aX.seq bg))));have gY:=zH (ae S2 (az.seq (aX.seq bg)));have vC:=zH (ae S3 (aX.seq bg));have WU:=zH (ae S4 bg);have HB:Hid (Bw w w5):=zH (ai.seq (ag.seq (az.seq (aX.seq bg))));have L8:=@run_makeMap Tryz.prog;clear S1 S2 S3 S4 S5;go_enter Tryz.func50,Tryz.ntmps50
 go_wp2_with (first | (with_reducible refine xK rfl (.tmp 7) (.const (.int .i64 5)) (.tmp 15) 88 rfl (et:=86) (val:=WT) qJ Tryz.underlying88 (w.heap.size+1+1+1+1) _ rfl M4.out (5:Int) rfl (.func (.func 112) #[] #[.pointer (some ⟨w.heap.size+1,0,none⟩),.pointer (some ⟨w.heap.size+1+1+1,0,none⟩)]) rfl ?_;intro oH m1 m2 m3 m4;have M5:=zH m1;have K5:=zH m4;clear m1 m2 m3 m4;have K:=zH (((K1.out.trans K2.out).trans K3.out).trans (K4.out.trans K5.out));have R1:=bF aQ.out K.out zO;have q1:=aO R1;have f1:=frozen_of_row oH w.heap.size 0 _ _ R1;have O1:=zH R1;clear R1) | (with_reducible refine xK rfl (.tmp 7) (.const (.int .i64 4)) (.tmp 13) 88 rfl (et:=86) (val:=WT) qJ Tryz.underlying88 (w.heap.size+1+1+1+1) _ rfl M3.out (4:Int) rfl (.func (.func 111) #[] #[.pointer (some ⟨w.heap.size+1,0,none⟩),.pointer (some ⟨w.heap.size+1+1+1,0,none⟩)]) rfl ?_;intro w9 m1 m2 m3 m4;have M4:=zH m1;have K4:=zH m4;clear m1 m2 m3 m4) | (with_reducible refine xK rfl (.tmp 7) (.const (.int .i64 3)) (.tmp 11) 88 rfl (et:=86) (val:=WT) qJ Tryz.underlying88 (w.heap.size+1+1+1+1) _ rfl M2.out (3:Int) rfl (.func (.func 110) #[] #[.pointer (some ⟨w.heap.size+1,0,none⟩),.pointer (some ⟨w.heap.size+1+1+1,0,none⟩)]) rfl ?_;intro w8 m1 m2 m3 m4;have M3:=zH m1;have K3:=zH m4;clear m1 m2 m3 m4) | (with_reducible refine xK rfl (.tmp 7) (.const (.int .i64 2)) (.tmp 9) 88 rfl (et:=86) (val:=WT) qJ Tryz.underlying88 (w.heap.size+1+1+1+1) _ rfl M1.out (2:Int) rfl (.func (.func 109) #[] #[]) rfl ?_;intro w7 m1 m2 m3 m4;have M2:=zH m1;have K2:=zH m4;clear m1 m2 m3 m4) | (with_reducible refine xK rfl (.tmp 7) (.const (.int .i64 1)) (.tmp 8) 88 rfl (et:=86) (val:=WT) qJ Tryz.underlying88 (w.heap.size+1+1+1+1) _ rfl M0.out (1:Int) rfl (.func (.func 108) #[] #[]) rfl ?_;intro w6 m1 m2 m3 m4;have M1:=zH m1;have K1:=zH m4;clear m1 m2 m3 m4))
 go_wp2_with fail;go_ret;have lq:=K.out.size;have yw:Bw w oH:=HB.out.trans (K.out.below zO (by intro k hk;omega));refine⟨w.heap.size,w.heap.size+1,w.heap.size+1+1,w.heap.size+1+1+1,w.heap.size+1+1+1+1,rfl,⟨bD O1.out,dE zO (bF gY.out K.out zO),dE zO (bF vC.out K.out zO),dE zO (bF WU.out K.out zO),?_⟩,yw.setCell (zR _) _,zO⟩;exact M5.out.keep (gq zO)
theorem Hu{l:List aJ}{i:Nat}{p:aJ}(h:l[i]?=some p):dZ (l.drop i)=dh p+dZ (l.drop (i+1)):=by
 obtain⟨hi,rfl⟩:=List.getElem?_eq_some_iff.1 h;rw[nZ hi,dZ]
theorem QV{a b:Nat}(h:a+b<1000000000):wrap64 ((a:Int)+(b:Int))=((a+b:Nat):Int):=by rw[CU zO zO];push_cast;rfl
theorem size_any:∀(p:aJ) (cs:List Value) (w:World) (F:Nat->Prop),au w F (aZ p) cs->dh p<100000000->
 Rt 211 #[.agg cs.toArray] w (.int .i64 (dh p)):=by
 intro p
 induction p using aJ.ind with
 | h k' nI mx' uo cl' pr' args ih=>
   intro cs w F h Dc;have rZ:=zH ih;clear ih;have bH:=au.here _ _ (jK _) h;obtain⟨k,mn,mx,el,ck,ns,nl,sp,A1,n1,c1,A2,n2,c2,pr,A,n,c,rfl,-,-,-,-,-,-,hn,aI⟩:=aW bH;have kK:bM w (· <w.heap.size) 12 (args.map aZ) A n:=aI;have HN:Hid (n=args.length):=zH (by have:=kK.1;rwa [z8] at this);have hD:dh (.mk k' nI mx' uo cl' pr' args)=1+dZ args:=(by rw[dh]);obtain⟨R,hR⟩:=zF (dh (.mk k' nI mx' uo cl' pr' args));rw[hR] at Dc hD ⊢;have HD:=zH hD;have lM:=zH kK;obtain⟨w1,bI,S1,lY,ai⟩:=af w (.cells #[.int .i64 k,.int .i64 mn,.int .i64 mx,.int .i64 el,.int .i64 ck,.string ns,.string nl,.string sp,.slice A1 n1 c1,.slice A2 n2 c2,.int .i64 pr,.slice A n c] 29);have aQ:=zH S1;have q0:=aj S1;clear S1 h bH hR hD aI kK;go_enter Tryz.func211,Tryz.ntmps211;go_wp2_with fail
   go_loopw [3,9] (λs3 si wr=>∃(i m:Nat),i<=n/\si= .int .i64 i/\s3= .int .i64 m/\Hid (m+dZ (args.drop i)=R)/\Bw w1 wr)
    (λ_ si _=>n - (intOf si).toNat)
   case atStart=>exact⟨0,1,zO,rfl,rfl,zH HD.out.symm,Below.refl _ _⟩
   case round=>
    clear q0;obtain⟨i,m,hi,rfl,rfl,HL,aH⟩:=hrel;have q0:=aj (ae aQ.out aH);have wG:=ai.seq aH;by_cases aN:i<n
    ·have jV:decide (i<n)=true:=by simp;omega
     obtain⟨b,off,px,v0,v1,v2,v3,v4,v5,v6,v7,v8,v9,v10,v11,HX,eG,z0,z1,z2,z3,z4,z5,z6,z7,z8,z9,nZ,og,dO⟩:=(lM.out.below wG).DW aN c;obtain⟨kx,gU,gz,gZ,ig,ik,iq,iw,iy,iC,iD,iE,iF,iG,iH,Ax,nx,cx,fJ,-⟩:=aW eG;simp only[List.cons.injEq,and_true] at fJ;obtain⟨rfl,rfl,rfl,rfl,rfl,rfl,rfl,rfl,rfl,rfl,rfl,rfl⟩:=fJ;have HS:=zH (Hu HX.out);obtain⟨dq,yt⟩:=zF (dh px);rw[yt] at HS;have Pj:m+dq+dZ (args.drop (i+1))=R:=(by have:=HL.out;rw[HS.out] at this;omega);have HMD:=zH Pj;obtain⟨wa,BK,SA,Vg,bJ⟩:=af wr (.cells #[.int .i64 kx,.int .i64 gU,.int .i64 gz,.int .i64 gZ,.int .i64 ig,.string ik,.string iq,.string iw,.slice iy iC iD,.slice iE iF iG,.int .i64 iH,.slice Ax nx cx] 29);have x0:=aj SA;have Ew:=aH.seq bJ
     have HC:Hid (Rt 211 #[.agg (o5 kx gU gz gZ ig ik iq iw iy iC iD iE iF iG iH Ax nx cx)] wa (.int .i64 dq)):=zH (by
      have h:=rZ.out px (z13 HX.out) _ wa _ (au.below eG (bJ.mono (wG.size))) (by rw[yt];omega)
      rw[yt] at h;exact h)
     have hwr:wrap64 ((m:Int)+(dq:Int))=((m+dq:Nat):Int):=QV zO;clear eG yt SA Pj;go_wp2_with fail;refine HC.out.mono ?_;rintro e w5 ⟨rfl,bg⟩;go_wp2_with fail;go_roundw
     case rel=>exact⟨i+1,m+dq,zO,by go_num,by first | rfl | (simp[hwr];done) | go_num,HMD,Ew.seq bg⟩
     case measure=>simp[intOf];omega
    ·have jV:decide (i<n)=false:=by simp;omega
     have HE:Hid (m=R):=zH (by have:=HL.out;rw[z14 (by have:=HN.out;omega),dZ] at this;omega);go_wp2_with fail;go_ret;exact⟨by rw[HE.out];rfl,wG⟩
def pJ(n:Int)(p:aJ):Bool:=
 if 0<p.args.length then false
 else if p.kind=1 then decide (0<=p.el)&&decide (p.el<n)&&qm p.cls&&decide (p.pr=0)
 else decide (p.kind=2)&&decide (p.el=0)&&decide (jF p.cls=0)&&decide (1<=p.pr)&&decide (p.pr<=3)
theorem Lj{v:Bool}(cl:aT)(cs:List Value)(w:World)(F:Nat->Prop)(h:dA w F cl cs)(hv:qm cl=v):
 Rt 116 #[.agg cs.toArray] w (.bool v):=by subst hv;exact Uj cl cs w F h
theorem N9{n:Int}{p:aJ}(h:0<p.args.length):pJ n p=false:=by unfold pJ;rw[if_pos h]
theorem YG{n:Int}{p:aJ}(h:¬0<p.args.length)(hk:p.kind=1):pJ n p=(decide (0<=p.el)&&decide (p.el<n)&&qm p.cls&&decide (p.pr=0)):=by unfold pJ;rw[if_neg h,if_pos hk]
theorem YH{n:Int}{p:aJ}(h:¬0<p.args.length)(hk:p.kind=2):pJ n p=(decide (p.el=0)&&decide (jF p.cls=0)&&decide (1<=p.pr)&&decide (p.pr<=3)):=by unfold pJ;rw[if_neg h,if_neg zO,hk];simp
theorem acI{n:Int}{p:aJ}(eu:p.kind≠1)(dm:p.kind≠2):pJ n p=false:=by unfold pJ;rw[if_neg eu];simp[dm]
theorem ae9(nE:Int)(p:aJ)(cs:List Value)(w:World)(F:Nat->Prop)(h:au w F (aZ p) cs):
 Rt 115 #[.agg cs.toArray,.int .i64 nE] w (.bool (pJ nE p)):=by
 have bH:=au.here _ _ (jK p) h;obtain⟨k,mn,mx,el,ck,ns,nl,sp,A1,n1,c1,A2,n2,c2,pr,A,n,c,rfl,hk,vH,l9,lT,uq,eH,hn,aI⟩:=aW bH
 have hlen:n=p.args.length:=by have:=aI.1;rwa [z8] at this
 obtain⟨w1,bI,S1,lY,ai⟩:=af w (.cells #[.int .i64 k,.int .i64 mn,.int .i64 mx,.int .i64 el,.int .i64 ck,.string ns,.string nl,.string sp,.slice A1 n1 c1,.slice A2 n2 c2,.int .i64 pr,.slice A n c] 29);have aQ:=zH S1;obtain⟨R,hR⟩:=zF (pJ nE p);rw[hR];have HR:=zH hR;have q0:=aj S1;clear S1 h bH vH l9 aI hR;by_cases h0:0<n
 ·have hd:decide (0<n)=true:=by simpa using h0
  have HX:Hid (R=false):=zH (by rw[<-HR.out];exact N9 (by rw[<-hlen];exact h0));clear h0 hlen hk lT uq eH;go_enter Tryz.func115,Tryz.ntmps115;go_wp2_with fail;go_ret;exact⟨by rw[HX.out];rfl,ai⟩
 have hd:decide (0<n)=false:=by simpa using h0
 have HN0:Hid (¬0<p.args.length):=zH (by rw[<-hlen];exact h0);clear h0 hlen;by_cases eu:k=1
 ·subst eu
  obtain⟨e1,BM⟩:=zF (decide (0<=el));obtain⟨e2,DX⟩:=zF (decide (el<nE));obtain⟨bv,jS⟩:=zF (qm p.cls)
  have QQ:Hid (∀W,Bw w1 W->Rt 116 #[.agg #[.int .i64 ck,.string ns,.string nl,.string sp,.slice A1 n1 c1,.slice A2 n2 c2]] W (.bool bv)):=zH λW hW=>by rw[<-jS];exact Uj p.cls _ W _ (eH.below (ai.seq hW))
  obtain⟨e3,IW⟩:=zF ((pr==0));have HF:Hid (R=(e1&&e2&&bv&&e3)):=zH (by rw[<-HR.out,YG HN0.out hk,lT,uq,BM,DX,jS,<-IW,oM pr 0]);clear hk lT uq eH jS;cases e1
  ·go_enter Tryz.func115,Tryz.ntmps115
   go_wp2_with fail;go_ret;exact⟨aK (by rw[HF.out];rfl),ai⟩
  cases e2
  ·go_enter Tryz.func115,Tryz.ntmps115
   go_wp2_with fail;go_ret;exact⟨aK (by rw[HF.out];rfl),ai⟩
  cases bv
  ·go_enter Tryz.func115,Tryz.ntmps115
   go_wp2_with fail;refine (QQ.out w1 (Below.refl _ _)).mono ?_;rintro e w2 ⟨rfl,ag⟩;clear q0;have q0:=aj (ae aQ.out ag);go_wp2_with fail;go_ret;exact⟨aK (by rw[HF.out];rfl),ai.seq ag⟩
  cases e3
  ·go_enter Tryz.func115,Tryz.ntmps115
   go_wp2_with fail;refine (QQ.out w1 (Below.refl _ _)).mono ?_;rintro e w2 ⟨rfl,ag⟩;clear q0;have q0:=aj (ae aQ.out ag);go_wp2_with fail;go_ret;exact⟨aK (by rw[HF.out];rfl),ai.seq ag⟩
  go_enter Tryz.func115,Tryz.ntmps115;go_wp2_with fail;refine (QQ.out w1 (Below.refl _ _)).mono ?_;rintro e w2 ⟨rfl,ag⟩;clear q0;have q0:=aj (ae aQ.out ag);go_wp2_with fail;go_ret;exact⟨aK (by rw[HF.out];rfl),ai.seq ag⟩
 by_cases dm:k=2
 ·subst dm
  obtain⟨e1,BM⟩:=zF ((el==0));obtain⟨ec,yJ⟩:=zF (jF p.cls)
  have Vq:Hid (∀W,Bw w1 W->Rt 71 #[.agg #[.int .i64 ck,.string ns,.string nl,.string sp,.slice A1 n1 c1,.slice A2 n2 c2]] W (.int .i64 ec)):=zH λW hW=>by rw[<-yJ];exact Qz p.cls _ W _ (eH.below (ai.seq hW))
  obtain⟨e2,DX⟩:=zF ((ec==0));obtain⟨e3,IW⟩:=zF (decide (1<=pr));obtain⟨e4,Uu⟩:=zF (decide (pr<=3));have HF:Hid (R=(e1&&e2&&e3&&e4)):=zH (by rw[<-HR.out,YH HN0.out hk,lT,uq,<-BM,<-DX,IW,Uu,<-yJ,oM el 0,oM (jF p.cls) 0]);clear hk lT uq eH yJ;cases e1
  ·go_enter Tryz.func115,Tryz.ntmps115
   go_wp2_with fail;go_ret;exact⟨aK (by rw[HF.out];rfl),ai⟩
  cases e2
  ·go_enter Tryz.func115,Tryz.ntmps115
   go_wp2_with fail;refine (Vq.out w1 (Below.refl _ _)).mono ?_;rintro e w2 ⟨rfl,ag⟩;clear q0;have q0:=aj (ae aQ.out ag);go_wp2_with fail;go_ret;exact⟨aK (by rw[HF.out];rfl),ai.seq ag⟩
  cases e3
  ·go_enter Tryz.func115,Tryz.ntmps115
   go_wp2_with fail;refine (Vq.out w1 (Below.refl _ _)).mono ?_;rintro e w2 ⟨rfl,ag⟩;clear q0;have q0:=aj (ae aQ.out ag);go_wp2_with fail;go_ret;exact⟨aK (by rw[HF.out];rfl),ai.seq ag⟩
  cases e4
  ·go_enter Tryz.func115,Tryz.ntmps115
   go_wp2_with fail;refine (Vq.out w1 (Below.refl _ _)).mono ?_;rintro e w2 ⟨rfl,ag⟩;clear q0;have q0:=aj (ae aQ.out ag);go_wp2_with fail;go_ret;exact⟨aK (by rw[HF.out];rfl),ai.seq ag⟩
  go_enter Tryz.func115,Tryz.ntmps115;go_wp2_with fail;refine (Vq.out w1 (Below.refl _ _)).mono ?_;rintro e w2 ⟨rfl,ag⟩;clear q0;have q0:=aj (ae aQ.out ag);go_wp2_with fail;go_ret;exact⟨aK (by rw[HF.out];rfl),ai.seq ag⟩
 have gJ:(k==1)=false:=by simpa using eu
 have jc:(k==2)=false:=by simpa using dm
 have HX:Hid (R=false):=zH (by rw[<-HR.out];exact acI (by rw[hk];exact eu) (by rw[hk];exact dm));clear eu dm hk lT uq eH;go_enter Tryz.func115,Tryz.ntmps115;go_wp2_with fail;go_ret;exact⟨by rw[HX.out];rfl,ai⟩
end Go.Proofs.YtgmnnegfndpakaaGreatDoor
namespace Go.Proofs.YtgmnnegfndpakaaGreatDoor
open Go Go.RowKit
mutual
def Bh:aT->List Nm
 | .mk k ns nl _ ex ar=>(if k=1 then [(ns,nl)] else [])++(Dy ex++Dy ar)
def Dy:List aT->List Nm
 | []=>[]
 | c::l=>Bh c++Dy l
end
mutual
def Bi:aT->List ByteArray
 | .mk k ns _ s ex ar=>(if k=1 then [ns] else if k=2 then [s] else [])++(Dz ex++Dz ar)
def Dz:List aT->List ByteArray
 | []=>[]
 | c::l=>Bi c++Dz l
end
mutual
def DC:aJ->List Nm
 | .mk k _ _ _ c _ args=>(if k=2 then Bh c else [])++DD args
def DD:List aJ->List Nm
 | []=>[]
 | p::l=>DC p++DD l
end
mutual
def DF:aJ->List ByteArray
 | .mk k _ _ _ c _ args=>(if k=2 then Bi c else [])++DI args
def DI:List aJ->List ByteArray
 | []=>[]
 | p::l=>DF p++DI l
end
structure zZ where
 names:List Nm
 spaces:List ByteArray
def adC(elems:List (List Nm))(ps:List aJ):List Nm:=elems.flatten++DD ps
def adD(elems:List (List Nm))(ps:List aJ):List ByteArray:=elems.flatten.map (·.1)++DI ps
def mZ(elems:List (List Nm))(ps:List aJ):zZ:=⟨(adC elems ps).foldl sF [],(adD elems ps).foldl qy []⟩
def zZ.size(a:zZ):Nat:=a.names.length+a.spaces.length+1
def EN:ByteArray:=⟨#[117,114,110,58,120]⟩
def AZ(taken:Nat->Bool)(n:Nat):Nat:=((List.range (n+1)).find? λk=>!taken k).getD 0
def iJ(a:zZ)(x:Nat):Nm:=
 match a.names[x]? with
 | some n=>n
 | none=>match a.spaces[x - a.names.length]? with
   | some s=>(s,dL xB (AZ (λk=>a.names.any (eqN (s,dL xB k))) a.names.length))
   | none=>(dL EN (AZ (λk=>a.spaces.any (eqS (dL EN k))) a.spaces.length),xB)
def qR(x:List Nat):List (List Nat)->Nat->Option Nat
 | [],_=>none
 | y::l,i=>if y=x then some i else qR x l (i+1)
def tN(nx:List Nat)(sets:List (List Nat)):Option (List (List Nat)×Int):=
 if nx=[] then some (sets,-1) else match qR nx sets 0 with
  | some i=>some (sets,i)
  | none=>if 1000<=sets.length then none else some (sets++[nx],sets.length)
def mkRow(jD:Nat->List Nat):List Nat->List (List Nat)->List Int->Option (List (List Nat)×List Int)
 | [],sets,row=>some (sets,row)
 | x::xs,sets,row=>match tN (jD x) sets with
   | none=>none
   | some r=>mkRow jD xs r.1 (row++[r.2])
def oU(jD:List Nat->Nat->List Nat)(K:Nat):Nat->Nat->List (List Nat)->List (List Int)->Option (List (List Nat)×List (List Int))
 | 0,_,sets,rows=>some (sets,rows)
 | f+1,k,sets,rows=>match sets[k]? with
   | none=>some (sets,rows)
   | some s=>match mkRow (jD s) (List.range K) sets [] with
     | none=>none
     | some r=>oU jD K f (k+1) r.1 (rows++[r.2])
def wR(mark:List Nat->Bool):List (List Nat)->Nat->Int->List Int
 | [],_,_=>[]
 | s::l,i,n=>if i=0\/mark s=true then n::wR mark l (i+1) (n+1) else (-1)::wR mark l (i+1) n
def A7(mark fin:List Nat->Bool):List (List Nat)->Nat->List Bool
 | [],_=>[]
 | s::l,i=>if i=0\/mark s=true then fin s::A7 mark fin l (i+1) else A7 mark fin l (i+1)
def uY(nums:List Int):List (List Int)->List Int->List (List Int)
 | [],_=>[]
 | _::_,[]=>[]
 | r::l,n::ns=>if n<0 then uY nums l ns else (r.map λt=>if 0<=t then (nums[t.toNat]?).getD 0 else t)::uY nums l ns
structure Aut where
 names:List Nm
 spaces:List ByteArray
 final:List Bool
 steps:List (List Int)
def TM(a:zZ)(mark fin:List Nat->Bool)(sets:List (List Nat))(rows:List (List Int)):Aut:=
 ⟨a.names,a.spaces,A7 mark fin sets 0,uY (wR mark sets 0 0) rows (wR mark sets 0 0)⟩
def nilA:Aut:=⟨[],[],[],[]⟩
def xX(m:eQ)(a:zZ)(set:List Nat)(x:Nat):List Nat:=lZ m set (iJ a x)
noncomputable def DJ(p:aJ)(elems:List (List Nm)):Aut×Int:=
 if kN elems p≠0 then (nilA,kN elems p)
 else match oU (xX (eU elems p) (mZ elems [p])) (mZ elems [p]).size 1001 0 [[0]] [] with
  | none=>(nilA,3)
  | some r=>(TM (mZ elems [p]) (λs=>EX s (aao (eU elems p))) (qA (eU elems p)) r.1 r.2,0)
def aaP{α:Type}(eq:α->α->Bool)(x:α):List α->Nat->Option Nat
 | [],_=>none
 | y::l,i=>if eq y x then some i else aaP eq x l (i+1)
def acG{α:Type}(lt:α->α->Bool):List α->Bool
 | []=>true
 | [_]=>true
 | x::y::l=>lt x y&&acG lt (y::l)
def adu(names:List Nm)(spaces:List ByteArray)(n:Nm):Int×Int:=
 if oZ n=true\/acG jg names=false\/acG kQ spaces=false then (0,2)
 else match aaP eqN n names 0 with
  | some i=>(i,0)
  | none=>match aaP eqS n.1 spaces 0 with
    | some i=>(names.length+i,0)
    | none=>(names.length+spaces.length,0)
structure mW where
 a:List Nat
 b:List Nat
 from_:Int
 letter:Nat
def uZ(a b:List Nat)(l:List mW):Bool:=l.any λt=>decide (t.a=a)&&decide (t.b=b)
def nH(ba bb:Nat->List Nat)(k:Nat)(l:List mW)(c:Nat):List mW:=
 if bb c≠[]/\uZ (ba c) (bb c) l=false then l++[⟨ba c,bb c,k,c⟩] else l
def yG(l:List mW)(stand:Nat->Nm):Nat->Int->List Nm
 | 0,_=>[]
 | f+1,i=>match l[i.toNat]? with
   | none=>[]
   | some t=>if t.from_<0 then [] else yG l stand f t.from_++[stand t.letter]
def inLoop(ba bb:List Nat->Nat->List Nat)(ea eb:List Nat->Bool)(stand:Nat->Nm)(K:Nat):Nat->Nat->List mW->Bool×List Nm×Int
 | 0,_,_=>(true,[],0)
 | f+1,k,l=>match l[k]? with
   | none=>(true,[],0)
   | some x=>if eb x.b&&!ea x.a then (false,yG l stand (k+1) k,0)
     else if 20000<((List.range K).foldl (nH (ba x.a) (bb x.b) k) l).length then (false,[],3)
     else inLoop ba bb ea eb stand K f (k+1) ((List.range K).foldl (nH (ba x.a) (bb x.b) k) l)
noncomputable def Ls(a b:aJ)(elems:List (List Nm)):Bool×List Nm×Int:=
 if kN elems a≠0 then (false,[],kN elems a)
 else if kN elems b≠0 then (false,[],kN elems b)
 else if (DJ a elems).2≠0 then (false,[],(DJ a elems).2)
 else if (DJ b elems).2≠0 then (false,[],(DJ b elems).2)
 else inLoop (xX (eU elems a) (mZ elems [a,b])) (xX (eU elems b) (mZ elems [a,b])) (qA (eU elems a)) (qA (eU elems b)) (iJ (mZ elems [a,b])) (mZ elems [a,b]).size 20001 0 [⟨[0],[0],-1,0⟩]
end Go.Proofs.YtgmnnegfndpakaaGreatDoor
