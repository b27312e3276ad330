import Derived.Test.YtgmnnegfndpakaaGreatDoorH12
set_option maxHeartbeats 20000000
set_option maxRecDepth 100000
namespace Go.Proofs.YtgmnnegfndpakaaGreatDoor
open Go.RowKit Go.Proofs.Tryz
variable{pl pl0:List aU}{i b n mo c base sz bm:Nat}{q:aU}{once:List aU->List aU×dR}{L:List LI->Prop}{p:aJ}{α:Type}{w w':World}{T:Nat->Prop}{pv:Value}{cells:α->List Value}
structure Bd (b m n:Nat) (r:List aU×dR):Prop where
 len:r.1.length=b+n
 qI:∀i q,b<=i->r.1[i]?=some q->q.follow.length<=m
 fl:r.2.first.length<=n
 ll:r.2.last.length<=n
 nd:r.2.last.Nodup
theorem afE(f:List Nat):∀(l:List Nat) (pl:List aU) (k:Nat),l.Nodup->k∈l->(l.foldl (λpl i=>tZ pl f i) pl)[k]?=(pl[k]?).map λq=>{ q with follow:=q.follow++f }
 | [],_,_,_,h=>by simp at h
 | i::l,pl,k,hn,h=>by
   rw[List.nodup_cons] at hn;rw[JN];by_cases e:i=k
   ·subst e;rw[Vl f l _ _ hn.1,Bo,j6 rfl]
   rcases TT.1 h with h | h
   ·exact absurd h.symm e
   rw[afE f l _ _ hn.2 h,Bo,j5 e]
theorem Ht{x y:dR}(hn:x.last.Nodup)(h:(dB pl x y)[i]?=q):∃q0,pl[i]?=some q0/\q.follow.length<=q0.follow.length+(if i∈x.last then y.first.length else 0):=by
 by_cases hi:i∈x.last
 ·rw[j6 hi];unfold dB at h;rw[afE _ _ _ _ hn hi] at h
  cases hq:pl[i]? with
  | none=>rw[hq] at h;cases h
  | some q0=>
    rw[hq] at h;obtain rfl:=zI h;exact⟨q0,rfl,zP⟩
 rw[Fq hi] at h;exact⟨q,h,zO⟩
theorem Bd.up{m m':Nat}{r:List aU×dR}(h:Bd b m n r)(hm:m<=m'):Bd b m' n r:=⟨h.len,λi q hi hq=>zT (h.qI i q hi hq) hm,h.fl,h.ll,h.nd⟩
theorem QM{a b:List Nat}(ha:a.Nodup)(hb:b.Nodup)(h:∀x∈a,x ∉ b):(a++b).Nodup:=List.nodup_append.2 ⟨ha,hb,λx hx _ hy e=>h x hx (e ▸ hy)⟩
section
variable {b m n m' n':Nat} {pl0:List aU} {x y:List aU×dR} {L M:List LI->Prop}
theorem Bd.cat(hx:Made b pl0 x L)(hy:Made x.1.length x.1 y M)(h1:Bd b m n x)(h2:Bd x.1.length m' n' y):Bd b (max m m'+n') (n+n') (dB y.1 x.2 y.2,fG x.2 y.2):=by
 have hd:∀i∈x.2.last,i<x.1.length:=λi hi=>(hx.ok.fF.last i hi).2;have jc:∀i∈y.2.last,x.1.length<=i:=λi hi=>(hy.ok.fF.last i hi).1;refine⟨by show (dB _ _ _).length=_;rw[mf,h2.len,h1.len];omega,λi q hi hq=>?_,?_,?_,?_⟩
 ·obtain⟨q0,g1,g2⟩:=Ht h1.nd hq;have g3:(if i∈x.2.last then y.2.first.length else 0)<=n':=(by split;exact h2.fl;omega)
  rcases i8 i x.1.length with aN | jT
  ·rw[hy.pre i aN] at g1;have:=h1.qI i q0 hi g1;omega
  have:=h2.qI i q0 jT g1;omega
 ·show (x.2.first++_).length<=_;have a1:=h1.fl;have a2:=h2.fl;rw[z5]
  split<;>simp<;>omega
 ·show (y.2.last++_).length<=_;have a1:=h1.ll;have a2:=h2.ll;rw[z5]
  split<;>simp<;>omega
 show (y.2.last++_).Nodup;refine QM h2.nd (by split;exact h1.nd;exact List.nodup_nil) λi hi hj=>?_;have:=jc i hi
 split at hj
 ·have:=hd i hj;omega
 simp at hj
theorem Bd.cat'(hx:Made b pl0 x L)(hy:Made x.1.length x.1 y M)(h1:Bd b m n x)(h2:Bd x.1.length m' n' y):Bd b (max m m'+n) (n+n') (dB y.1 y.2 x.2,fG y.2 x.2):=by
 have hd:∀i∈x.2.last,i<x.1.length:=λi hi=>(hx.ok.fF.last i hi).2;have jc:∀i∈y.2.last,x.1.length<=i:=λi hi=>(hy.ok.fF.last i hi).1;refine⟨by show (dB _ _ _).length=_;rw[mf,h2.len,h1.len];omega,λi q hi hq=>?_,?_,?_,?_⟩
 ·obtain⟨q0,g1,g2⟩:=Ht h2.nd hq;have g3:(if i∈y.2.last then x.2.first.length else 0)<=n:=(by split;exact h1.fl;omega)
  rcases i8 i x.1.length with aN | jT
  ·rw[hy.pre i aN] at g1;have:=h1.qI i q0 hi g1;omega
  have:=h2.qI i q0 jT g1;omega
 ·show (y.2.first++_).length<=_;have a1:=h1.fl;have a2:=h2.fl;rw[z5]
  split<;>simp<;>omega
 ·show (x.2.last++_).length<=_;have a1:=h1.ll;have a2:=h2.ll;rw[z5]
  split<;>simp<;>omega
 show (x.2.last++_).Nodup;refine QM h1.nd (by split;exact h2.nd;exact List.nodup_nil) λi hi hj=>?_;have:=hd i hi
 split at hj
 ·have:=jc i hj;omega
 simp at hj
theorem Bd.or(hx:Made b pl0 x L)(hy:Made x.1.length x.1 y M)(h1:Bd b m n x)(h2:Bd x.1.length m' n' y):Bd b (max m m') (n+n') (y.1,⟨x.2.first++y.2.first,x.2.last++y.2.last,x.2.empty||y.2.empty⟩):=by
 refine⟨by show y.1.length=_;rw[h2.len,h1.len];omega,λi q hi hq=>?_,?_,?_,?_⟩
 ·rcases i8 i x.1.length with aN | jT
  ·have hq':x.1[i]?=some q:=(hy.pre i aN).symm.trans hq;have:=h1.qI i q hi hq';omega
  have:=h2.qI i q jT hq;omega
 ·show (x.2.first++_).length<=_;have a1:=h1.fl;have a2:=h2.fl;rw[z5];omega
 ·show (x.2.last++_).length<=_;have a1:=h1.ll;have a2:=h2.ll;rw[z5];omega
 exact QM h1.nd h2.nd λi hi hj=>by
  have:=(hx.ok.fF.last i hi).2;have:=(hy.ok.fF.last i hj).1;omega
end
theorem Bd.nil(pl:List aU)(b:Bool):Bd pl.length 0 0 (pl,⟨[],[],b⟩):=⟨rfl,λi q hi hq=>by have:=(z4.1 hq).1;have:i<pl.length:=this;omega,zR _,zR _,List.nodup_nil⟩
theorem Yu(ho:CS once L)(hb:∀pl,Bd pl.length mo c (once pl)):∀(k:Nat) {m n:Nat} {pl:List aU} {out:dR} {M:List LI->Prop},
 Made b pl0 (pl,out) M->Bd b m n (pl,out)->mo<=m->Bd b (m+k*c) (n+k*c) (kY once k pl out)
 | 0,m,n,pl,out,M,_,h,_=>by rw[kY,Nat.zero_mul];exact h
 | k+1,m,n,pl,out,M,h0,h,hm=>by
   rw[kY,Nat.succ_mul];have h1:=Bd.cat h0 (ho pl) h (hb pl);have h2:=Yu ho hb k (h0.cat (ho pl)) (h1.up (m':=m+c) zO) zO;rw[show m+(k*c+c)=m+c+k*c by omega,show n+(k*c+c)=n+c+k*c by omega];exact h2
theorem Yv(ho:CS once L){K:Nat}(hb:∀pl,Bd pl.length mo c (once pl)):∀(k:Nat) {m n:Nat} {pl:List aU} {tail:dR} {M:List LI->Prop},
 Made b pl0 (pl,tail) M->Bd b m n (pl,tail)->mo<=m->n+k*c<=K->Bd b (m+k*K) (n+k*c) (mY once k pl tail)
 | 0,m,n,pl,tail,M,_,h,_,_=>by rw[mY,Nat.zero_mul,Nat.zero_mul];exact h
 | k+1,m,n,pl,tail,M,h0,h,hm,hK=>by
   rw[Nat.succ_mul] at hK;rw[mY,Nat.succ_mul,Nat.succ_mul];have h1:=Bd.cat' h0 (ho pl) h (hb pl);have h1':=h0.cat' (ho pl);have h3:Made b pl0 (dB (once pl).1 (once pl).2 tail,{ fG (once pl).2 tail with empty:=true }) (λw=>w=[]\/qO L M w):=⟨h1'.base,h1'.pre,h1'.ok.opt⟩
   have h4:Bd b (m+K) (n+c) (dB (once pl).1 (once pl).2 tail,{ fG (once pl).2 tail with empty:=true }):=by
    have h5:=h1.up (m':=m+K) zO;exact⟨h5.len,h5.qI,h5.fl,h5.ll,h5.nd⟩
   have h2:=Yv (K:=K) ho hb k h3 h4 zO zO;rw[show m+(k*K+K)=m+K+k*K by omega,show n+(k*c+c)=n+c+k*c by omega];exact h2
theorem ajv(ho:CS once L)(hb:∀pl,Bd pl.length mo c (once pl)){mn mx z:Int}(h0:0<=mn/\mn<=20)(hx:mx= -1\/(mn<=mx/\mx<=20))(hz:z=0->c*rep mn mx=0)(hc:c*rep mn mx<=200)(pl:List aU):
 Bd pl.length (mo+4800) (c*rep mn mx) (rH once mn mx z pl):=by
 unfold rH
 split
 ·rename_i h;rw[hz h];exact(Bd.nil pl true).up zO
 obtain⟨k,hk⟩:∃k:Nat,mn.toNat=k:=⟨_,rfl⟩;have h1:=JH ho k (Made.nil pl);have g1:=Yu ho hb k (Made.nil pl) ((Bd.nil pl true).up (m':=mo) zO) (zR _);rw[d9] at g1;simp only[hk];obtain⟨a,ha⟩:=zF (kY once k pl oN);have ha':kY once k pl ⟨[],[],true⟩=a:=ha;rw[ha] at h1 ⊢;rw[show oN=⟨[],[],true⟩ from rfl,ha'] at g1;have aHR:k<=20:=zO
 split
 ·rename_i hm;have er:rep mn mx=k+1:=(by unfold rep;rw[j6 hm,hk]);rw[er] at hc ⊢;have yP:=ho a.1;have dY:=hb a.1;obtain⟨bb,jm⟩:=zF (once a.1);rw[jm] at yP dY ⊢;have GN:k*c+c=c*(k+1):=(by rw[Nat.mul_comm c,Nat.succ_mul])
  have hs:Made a.1.length a.1 (dB bb.1 bb.2 bb.2,{ bb.2 with empty:=true }) (λw=>∃n,qP L n w):=by
   refine⟨by show _<=(dB _ _ _).length;rw[mf];exact yP.base,λi hi=>?_,yP.ok.star.wide λi=>?_⟩
   ·show (dB _ _ _)[i]?=_;rw[Fq (λhm=>by have:=yP.ok.fF.last i hm;omega),yP.pre i hi]
   show _↔_/\i<(dB _ _ _).length;rw[mf]
  have gs:Bd a.1.length (mo+c) c (dB bb.1 bb.2 bb.2,{ bb.2 with empty:=true }):=by
   refine⟨by show (dB _ _ _).length=_;rw[mf];exact dY.len,λi q hi hq=>?_,dY.fl,dY.ll,dY.nd⟩;obtain⟨q0,e1,e2⟩:=Ht dY.nd hq;have e3:=dY.qI i q0 hi e1;have e4:(if i∈bb.2.last then bb.2.first.length else 0)<=c:=(by split;exact dY.fl;omega);omega
  have hf:=Bd.cat h1 hs g1 gs;rw[GN] at hf;have aHS:k*c<=200:=zO;have hcb:c<=200:=zO;exact hf.up zO
 rename_i hm;obtain⟨d,hd⟩:∃d:Nat,(mx - mn).toNat=d:=⟨_,rfl⟩;have aHT:d<=20:=zO;have er:rep mn mx=k+d:=(by unfold rep;rw[j5 hm];omega);rw[er] at hc ⊢;have hkd:k*c+d*c=c*(k+d):=(by rw[Nat.mul_comm c,Nat.add_mul]);have h3:=JI ho d 0 ((Made.nil a.1).wJ (λw=>⟨λh=>⟨0,zR _,h⟩,λ⟨m,h1,h2⟩=>by obtain rfl:m=0:=Nat.le_zero.1 h1;exact h2⟩));have g3:=Yv ho (K:=200) hb d (Made.nil a.1) ((Bd.nil a.1 true).up (m':=mo) zO) (zR _) zO;rw[hd];rw[d9] at g3;have hf:=Bd.cat h1 h3 g1 g3;rw[hkd] at hf;exact hf.up zO
theorem amC(p:aJ)(hg:kR p=true):1<=rep p.mn p.mx:=by
 obtain⟨k',nI,mx',uo,c',pr',args'⟩:=p;obtain⟨⟨a1,a2,a3⟩,_⟩:=rJ hg;show 1<=rep nI mx';unfold rep
 split<;>omega
def ja(p:aJ):Nat:=(if fD p.kind then 1 else 0)+kF p.args
theorem Ij(p:aJ):lJ p=ja p*rep p.mn p.mx:=by cases p;exact Yt ..
theorem xJ(p:aJ)(hg:kR p=true):ja p<=lJ p:=by
 rw[Ij];have:=amC p hg
 calc ja p=ja p*1:=(Nat.mul_one _).symm
  _<=_:=Nat.mul_le_mul_left _ this
theorem IM:∀{l:List aJ},p∈l->lJ p<=kF l
 | q::l,h=>by
   rw[kF]
   rcases TT.1 h with rfl | h
   ·omega
   have:=IM h;omega
theorem Ur(hg:kR p=true)(hn:dh p<=40)(hc:lJ p<=200){num:Nat}(hb:∀pl,Bd pl.length mo (ja p) (kL p num pl))(pl:List aU):Bd pl.length (mo+4800) (lJ p) (rH (kL p num) p.mn p.mx (dC p) pl):=by
 have Az:=Au p hg hn;have hz:dC p=0->ja p*rep p.mn p.mx=0:=λh=>(by rw[<-Ij];omega);have ho:=wK p hg hn num;rw[Ij] at hc ⊢;obtain⟨k',nI,mx',uo,c',pr',args'⟩:=p;obtain⟨⟨a1,a2,a3⟩,_⟩:=rJ hg;exact ajv ho hb ⟨a1,a2⟩ (a3.imp id λh=>⟨h.1,h.2.2⟩) hz hc pl
theorem Ik:∀p:aJ,kR p=true->dh p<=40->ja p<=200->∀num pl,Bd pl.length (5200*(dh p - 1)) (ja p) (kL p num pl):=by
 intro p
 induction p using aJ.ind with
 | h k mn mx el c pr args ih=>
   intro hg hn hc num pl;obtain⟨_,h4⟩:=rJ hg;have yu:(if fD k then 1 else 0)+kF args<=200:=hc;show Bd pl.length _ ((if fD k then 1 else 0)+kF args) _;rw[dh] at hn;rw[kL,dh];by_cases hk:fD k=true
   ·rw[j6 hk]
    obtain rfl:args=[]:=by
     rcases h4 with ⟨_,h⟩ | ⟨rfl,_⟩ | ⟨rfl,_⟩
     ·exact h
     ·cases hk
     cases hk
    simp only[hk,if_true,kF];refine⟨zP,λi q hi hq=>?_,zP,zP,zP⟩;have hi2:=(z4.1 hq).1;rw[z5,TQ] at hi2;obtain rfl:i=pl.length:=zO;simp at hq;subst hq;simp
   rw[j5 hk];have fM:fD k=false:=(by simpa using hk);simp only[fM,b6,if_false,d9] at yu ⊢
   have LZ:oz args=true:=by
    rcases h4 with ⟨h,_⟩ | ⟨_,h⟩ | ⟨_,_,h⟩
    ·exact absurd h hk
    ·exact h
    exact h
   have parts:∀q∈args,kR q=true->dh q<=40->∀num,CS (rH (kL q num) q.mn q.mx (dC q)) (Gg (rW q num) q.mn q.mx)/\∀pl:List aU,Bd pl.length (5200*dh q - 400) (lJ q) (rH (kL q num) q.mn q.mx (dC q) pl):=by
    intro q hq g n num;refine⟨xI g n num,λpl=>?_⟩;have hcq:lJ q<=200:=zT (IM hq) yu;have hh:=ih q hq g n (zT (xJ q g) hcq) num;have:=Eu q;exact(Ur g n hcq hh pl).up zO
   have key:∀(sq:Bool) (l:List aJ) (num:Nat) (pl:List aU) (out:dR) (b m n:Nat) (pl0:List aU) (M:List LI->Prop),(∀q∈l,q∈args)->oz l=true->dZ l<=40->kF l<=200->Made b pl0 (pl,out) M->Bd b m n (pl,out)->
    Bd b (m+5200*dZ l) (n+kF l) (pI sq l num pl out):=by
    intro sq l
    induction l with
    | nil=>intro num pl out b m n pl0 M _ _ _ _ _ h;rw[pI,dZ,kF];exact h
    | cons q l ihl=>
      intro num pl out b m n pl0 M hm hg hn hc h0 h;obtain⟨g1,g2⟩:=aap hg;rw[dZ] at hn;rw[kF] at hc;obtain⟨p1,p2⟩:=parts q (hm q zP) g1 zO num;rw[pI,dZ,kF];have hq:=Eu q
      cases sq with
      | true=>
        simp only[if_true];have a1:=Bd.cat h0 (p1 pl) h (p2 pl);have a2:=ihl (num+dh q) _ _ b _ _ pl0 _ (λq hq=>hm q (by simp[hq])) g2 zO zO (h0.cat (p1 pl)) (a1.up (m':=m+5200*dh q) zO);rw[show n+(lJ q+kF l)=n+lJ q+kF l by omega];exact a2.up zO
      | false=>
        simp only[b6,if_false];have a1:=Bd.or h0 (p1 pl) h (p2 pl);have a2:=ihl (num+dh q) _ _ b _ _ pl0 _ (λq hq=>hm q (by simp[hq])) g2 zO zO (h0.or (p1 pl)) (a1.up (m':=m+5200*dh q) zO);rw[show n+(lJ q+kF l)=n+lJ q+kF l by omega];exact a2.up zO
   have bZ:∃M,Made pl.length pl (pl,⟨[],[],decide (k=3)⟩) M:=by
    cases decide (k=3)
    ·exact⟨_,Made.never pl⟩
    exact⟨_,Made.nil pl⟩
   obtain⟨M,hM⟩:=bZ;have:=key (decide (k=3)) args (num+1) pl ⟨[],[],decide (k=3)⟩ pl.length 0 0 pl M (λq hq=>hq) LZ zO yu hM (Bd.nil pl _);rw[d9,d9] at this;rw[show 1+dZ args - 1=dZ args by omega];exact this
theorem Ez(hg:kR p=true)(hn:dh p<=40)(hc:lJ p<=200)(num:Nat)(pl:List aU):Bd pl.length 208000 (lJ p) (fV p num pl):=
 (Ur hg hn hc (Ik p hg hn (zT (xJ p hg) hc) num) pl).up (by have:=Eu p;omega)
def aV(n:Nat):List Value:=[n]
theorem jd(x:Nat):(aV x).length=1:=rfl
theorem afF(l:List Nat):∀u∈l.flatMap aV,u.oneCell'=true:=by
 intro u hu;obtain⟨x,_,hx⟩:=List.mem_flatMap.1 hu;simp[aV] at hx;rw[hx];rfl
theorem info3:(prog.info? 3).map (λi=>(i.zero,i.size,i.bytes))=some (some (.int .i64 0),1,8):=by kernel_rfl
theorem tyI:rC prog 58 3 (0:Int) 1 8:=sU zK info3 zK zD zD
theorem clone_any(l:List Nat)(A:Option Addr)(n c:Nat)(w:World)(F:Nat->Prop)(h:aY w F 1 aV l A n)(hn:n<4000000):
 Cl 210 #[(A,n,c)] w λe w'=>∃v',e= .returned v'/\ax w' w 3 1 aV l v'/\Bw w w':=by
 rcases A with _ | ad
 ·have hl:l=[]:=by
   cases l with
   | nil=>rfl
   | cons x r=>obtain⟨b,off,hA,_⟩:=h.2 zP;cases hA
  subst hl;refine Calls.mono (P:=prog) (f:=210) (Tryz.slices_Clone_nil n c w) ?_;rintro e w' ⟨rfl,rfl⟩;exact⟨_,rfl,ax.nil _ _ _ _ _,j9 _ _⟩
 rcases Nat.eq_zero_or_pos n with h0 | h0
 ·have hl:l=[]:=g9 (by rw[<-h.1];exact h0);subst hl;subst h0;refine Calls.mono (P:=prog) (f:=210) (Tryz.slices_Clone_int_zero ad c w) ?_;rintro e w' ⟨v',rfl,ho,-,hb⟩;exact⟨_,rfl,ho,hb⟩
 obtain⟨b,off,hA,_,hc⟩:=h.2 (by rw[<-h.1];exact h0);obtain rfl:=zI hA;obtain⟨hu,i,hi,hz,bY,nP,ry,hs0,-⟩:=tyI;have hs:=h.src jd zD n (zR _);have Zz:l.take n=l:=(by rw[h.1];exact List.take_length);rw[Zz] at hs;obtain⟨b',off',e1,aaF⟩:=hs.2 h0;simp only[l5,Addr.mk.injEq,and_true] at e1;obtain⟨rfl,rfl⟩:=e1;refine Calls.mono (P:=prog) (f:=210) (Tryz.slices_Clone i _ 1 8 hi hz bY nP ry hs0 (λw=>by kernel_rfl) b off n c (l.flatMap aV) w hs.1 (by unfold maxLen;omega) zO aaF (afF l)) ?_;rintro e w' ⟨v',rfl,ho,-,hb⟩;exact⟨_,rfl,by unfold ax;rw[<-h.1];exact ho,hb⟩
structure lK where
 lc:rE 12
 num:Nat
 fA:Option Addr
 fn:Nat
 fc:Nat
def lK.fv(r:lK):Value:=(r.fA,r.fn,r.fc)
def sH(r:lK):List Value:=r.lc.1++[.int .i64 r.num,r.fv]
theorem Il(r:lK):(sH r).length=14:=by unfold sH;rw[z5,r.lc.2.1];rfl
theorem art(l:List lK):∀u∈l.flatMap sH,u.oneCell'=true:=by
 intro u hu;obtain⟨r,_,hx⟩:=List.mem_flatMap.1 hu;unfold sH at hx
 rcases z12.1 hx with hx | hx
 ·exact r.lc.2.2 u hx
 simp only[TT,List.not_mem_nil,or_false] at hx
 rcases hx with rfl | rfl<;>rfl
theorem aru:(prog.info? 195).map (λi=>(i.zero,i.size,i.bytes))=some (some (.agg #[.int .i64 0,.int .i64 0,.int .i64 0,.int .i64 0,.int .i64 0,.string ⟨#[]⟩,.string ⟨#[]⟩,.string ⟨#[]⟩,.slice none 0 0,.slice none 0 0,.int .i64 0,.slice none 0 0,.int .i64 0,.slice none 0 0]),14,200):=by kernel_rfl
theorem tyP:rC prog 167 195 (.agg #[(0:Int),(0:Int),(0:Int),(0:Int),(0:Int),.string ⟨#[]⟩,.string ⟨#[]⟩,.string ⟨#[]⟩,(),(),(0:Int),(),(0:Int),()]) 14 200:=sU zK aru zK zD zD
structure Hd where
 e:Value
 f:Value
 mp:Value
 em:Value
 al:Value
def Yx(hd:Hd)(pv:Value):Array Value:=#[hd.e,pv,hd.f,hd.mp,hd.em,hd.al]
structure gV (w:World) (base:Nat) (T:Nat->Prop) (bm:Nat) (hd:Hd) (pl:List aU) (pv:Value) (rs:List lK):Prop where
 blk:w.heap[bm]?=Zc (Yx hd pv) 169
 own:ax w base 195 14 sH rs pv
 len:rs.length=pl.length
 IP:T bm
 Fv:∀k:Nat,pv.ownBlock=k->T k/\k≠bm
 row:∀(i:Nat) (q:aU) (r:lK),pl[i]?=q->rs[i]?=r->q.num=r.num/\au w (· <base) (aZ q.leaf) r.lc.1/\ax w base 3 1 aV q.follow r.fv/\∀k:Nat,r.fv.ownBlock=k->T k/\k≠bm/\pv.ownBlock≠some k
 ZA:∀(i j:Nat) (r r':lK) (k:Nat),i≠j->rs[i]?=r->rs[j]?=r'->r.fv.ownBlock=k->r'.fv.ownBlock≠some k
 inT:∀k:Nat,T k->base<=k/\k<w
 le:base<=w
theorem ax.bu{e:TypeId}{l:List α}{v:Value}(h:ax w base e sz cells l v)(hk:∀k,v.ownBlock=some k->w'.heap[k]?=w.heap[k]?):ax w' base e sz cells l v:=
 h.grown λk _ hv=>hk k hv.symm
theorem gV.keep{hd:Hd}{rs:List lK}(h:gV w base T bm hd pl pv rs)(hs:w.heap.size<=w')(h1:∀k,(T k\/k<base)->w'.heap[k]?=w.heap[k]?):gV w' base T bm hd pl pv rs where
 blk:=(h1 bm (.inl h.IP)).trans h.blk
 own:=h.own.bu λk hk=>h1 k (.inl (h.Fv k hk).1)
 len:=h.len
 IP:=h.IP
 Fv:=h.Fv
 row i q r hq hr:=by
  obtain⟨a,b,c,d⟩:=h.row i q r hq hr;exact⟨a,b.keep λk hk=>⟨hk,h1 k (.inr hk)⟩,c.bu λk hk=>h1 k (.inl (d k hk).1),d⟩
 ZA:=h.ZA
 inT k hk:=⟨(h.inT k hk).1,d4 (h.inT k hk).2 hs⟩
 le:=zT h.le hs
theorem gV.below{hd:Hd}{rs:List lK}(h:gV w base T bm hd pl pv rs)(hb:Bw w w'):gV w' base T bm hd pl pv rs:=
 h.keep hb.size λk hk=>hb.block k (by
  rcases hk with hk | hk
  ·exact(h.inT k hk).2
  have:=h.le;omega)
theorem ZB(hl:∀x,(cells x).length=sz):∀(l:List α) (i:Nat) (x x':α) (j:Nat) (v:Value),l[i]?=x->j<sz->cells x'=(cells x).set j v->(l.set i x').flatMap cells=(l.flatMap cells).set (i*sz+j) v
 | [],i,x,x',j,v,h,_,_=>by simp at h
 | y::l,0,x,x',j,v,h,hj,he=>by
   obtain rfl:y=x:=(by simpa using h);rw[List.set_cons_zero,l4,l4,Nat.zero_mul,d9,List.set_append_left _ _ (by rw[hl];exact hj),he]
 | y::l,i+1,x,x',j,v,h,hj,he=>by
   rw[List.set_cons_succ,l4,l4,List.set_append_right _ _ (by rw[hl,Nat.add_mul];omega),hl,show (i+1)*sz+j - sz=i*sz+j by rw[Nat.add_mul];omega];rw[ZB hl l i x x' j v (by simpa using h) hj he]
theorem gV.place{hd:Hd}{rs:List lK}(h:gV w base T bm hd pl pv rs)(hq:pl[i]?=q):
 ∃g cap r cur,pv= .slice (some ⟨g,0,none⟩) pl.length cap/\rs[i]?=some r/\w.heap[g]?=some (.cells cur 195)/\cur.toList.take (rs.length*14)=rs.flatMap sH/\cur.size=cap*14/\pl.length<=cap/\cap<=maxLen/\base<=g/\T g/\g≠bm/\cu w g (i*14) (sH r)/\
  (∀W,(Instr.indexAt 167 pv i).run prog W= .ok (.pointer (some ⟨g,i*14,none⟩)) W):=by
 have hi:i<pl.length:=(z4.1 hq).1;have hir:i<rs.length:=(by rw[h.len];exact hi);have hr:rs[i]?=rs[i]:=z6 hir
 rcases h.own.2 with ⟨_,hn⟩ | ⟨g,cap,cur,hv,hg,hh,GK,yg,mP,kU⟩
 ·omega
 have ht:=h.Fv g (by rw[hv];rfl)
 have hc:cu w g (i*14) (sH rs[i]):=by
  intro j v hj;have aA9:j<14:=(by rw[<-Il rs[i]];exact(z4.1 hj).1);have e1:=flat_get Il rs i j _ hr aA9;rw[<-kU,Za zO] at e1;rw[Ys w g _ _ _ _ hh,<-hj,<-e1];simp
 refine⟨g,cap,rs[i],cur,by rw[hv,h.len],hr,hh,kU,mP,by rw[<-h.len];exact GK,yg,hg,ht.1,ht.2,hc,λW=>?_⟩;rw[hv,h.len];have e:=dN (P:=prog) 167 195 14 underlying167 (λw=>by kernel_rfl) (rfl:(g:Option Addr)=g) pl.length cap i hi W;rw[d9] at e;exact e
theorem gV.grow{w1:World}{hd:Hd}{rs:List lK}(h:gV w base T bm hd pl pv rs){r:lK}(hq:pl[i]?=q)(hr:rs[i]?=r){g cap:Nat}(oC:pv= (g,0,n,cap))
 {f:List Nat} {fA:Option Addr} {fn fc:Nat} (ho:ax w1 base 3 1 aV (q.follow++f) (fA,fn,fc)) (hg:w.grownBy w1 r.fv.ownBlock) (hb:(Value.slice fA fn fc).ownBlock=r.fv.ownBlock\/(Value.slice fA fn fc).ownBlock=w.heap.size):
 gV (w1.setCell (g,i*14+13) (fA,fn,fc)) base (λk=>T k\/(Value.slice fA fn fc).ownBlock=some k) bm hd (tZ pl f i) pv (rs.set i { r with fA:=fA,fn:=fn,fc:=fc })/\
  Kept T w (w1.setCell (g,i*14+13) (fA,fn,fc)):=by
 obtain⟨g',cap',r',cur,e1,e2,e3,e4,e5,e6,e7,e8,e9,e10,e11,-⟩:=h.place hq;rw[e1] at oC;simp only[i6,l5,Addr.mk.injEq,and_true] at oC;obtain⟨rfl,-,rfl⟩:=oC;obtain rfl:r=r':=(by rw[hr] at e2;exact zI e2);have hpo:pv.ownBlock=g':=(by rw[e1];rfl);obtain⟨a1,a2,a3,a4⟩:=h.row i q r hq hr;have zV:g'<w:=aC e3;have jU:i<rs.length:=(z4.1 hr).1;have hfg:r.fv.ownBlock≠some g':=λe=>(a4 g' e).2.2 hpo
 have hng:(Value.slice fA fn fc).ownBlock≠some g':=by
  rcases hb with hb | hb
  ·rw[hb];exact hfg
  rw[hb];intro e;have:=zI e;omega
 obtain⟨w2,mJ⟩:=zF (w1.setCell (g',i*14+13) (fA,fn,fc));rw[mJ];have far:∀k,k≠g'->w2.heap[k]?=w1.heap[k]?:=λk hk=>(by rw[<-mJ];exact b7 _ _ _ _ hk);have old:∀k,k<w.heap.size->r.fv.ownBlock≠some k->k≠g'->w2.heap[k]?=w.heap[k]?:=λk hk h1 h2=>(far k h2).trans (hg.block k hk (λe=>h1 e.symm));have bY:w1.heap.size=w2:=(by rw[<-mJ];simp[World.setCell]);have lV:w1.heap[g']?=Zc cur 195:=(hg.block g' zV (λe=>hfg e.symm)).trans e3;have qo:w2.heap[g']?=Zc (cur.setIfInBounds (i*14+13) (fA,fn,fc)) 195:=(by rw[<-mJ];exact dM lV);have Fh:=aS ho;refine⟨⟨?_,?_,?_,.inl h.IP,λk hk=>⟨.inl (h.Fv k hk).1,(h.Fv k hk).2⟩,?_,?_,?_,?_⟩,?_⟩
 ·have WI:r.fv.ownBlock≠some bm:=λe=>(a4 bm e).2.1 rfl;exact(old bm (h.inT bm h.IP).2 WI (Ne.symm e10)).trans h.blk
 ·have Gh:(rs.set i { r with fA:=fA,fn:=fn,fc:=fc }).flatMap sH=(rs.flatMap sH).set (i*14+13) (fA,fn,fc):=by
   refine ZB Il rs i r _ 13 _ hr zD ?_;unfold sH lK.fv;rw[List.set_append_right _ _ (by rw[r.lc.2.1];decide),r.lc.2.1];rfl
  refine⟨tX Il _,.inr ⟨g',cap',cur.setIfInBounds (i*14+13) (fA,fn,fc),by rw[e1,List.length_set,h.len],e8,qo,by rw[List.length_set,h.len];exact e6,e7,by simpa using e5,?_⟩⟩;rw[Gh,<-e4,List.length_set,Array.toList_setIfInBounds,List.take_set]
 ·rw[List.length_set,Vj,h.len]
 ·intro j q' r' hq' Aq;rw[Bo] at hq';by_cases Fz:i=j
  ·subst Fz;rw[j6 rfl,hq] at hq';obtain rfl:=zI hq';rw[List.getElem?_set_self jU] at Aq;obtain rfl:=zI Aq;refine⟨a1,a2.keep λk hk=>⟨hk,old k (by have:=h.le;omega) (λe=>by have:=(h.inT k (a4 k e).1).1;omega) zO⟩,?_,λk hk=>⟨.inr hk,?_,λe=>hng (hk.trans (e.symm.trans hpo))⟩⟩
   ·exact ax.bu ho λk hk=>far k (λe=>hng (e ▸ hk))
   rcases hb with hb | hb
   ·exact(a4 k (hb ▸ hk)).2.1
   have fM:some w.heap.size=some k:=hb.symm.trans hk;have:=zI fM;have:=(h.inT bm h.IP).2;omega
  rw[j5 Fz] at hq';rw[List.getElem?_set_ne Fz] at Aq;obtain⟨c1,c2,c3,c4⟩:=h.row j q' r' hq' Aq;refine⟨c1,c2.keep λk hk=>⟨hk,old k (by have:=h.le;omega) (λe=>by have:=(h.inT k (a4 k e).1).1;omega) zO⟩,c3.bu λk hk=>?_,λk hk=>⟨.inl (c4 k hk).1,(c4 k hk).2⟩⟩;exact old k (h.inT k (c4 k hk).1).2 (λe=>h.ZA i j r r' k Fz hr Aq e hk) (λe=>(c4 k hk).2.2 (e ▸ hpo))
 ·intro a b ra rb k nz IQ JK hk
  have new:∀(j:Nat) (rj:lK),i≠j->rs[j]?=rj->rj.fv.ownBlock=some k->(Value.slice fA fn fc).ownBlock≠some k:=by
   intro j rj Fz hrj hkj BL;obtain⟨qj,hqj⟩:∃qj,pl[j]?=some qj:=⟨_,z6 (by rw[<-h.len];exact(z4.1 hrj).1)⟩
   rcases hb with hb | hb
   ·exact h.ZA i j r rj k Fz hr hrj (hb ▸ BL) hkj
   have fM:some w.heap.size=k:=hb.symm.trans BL;have:=zI fM;have:=(h.inT k ((h.row j qj rj hqj hrj).2.2.2 k hkj).1).2;omega
  by_cases ha:i=a
  ·subst ha;rw[List.getElem?_set_self jU] at IQ;obtain rfl:=zI IQ;rw[List.getElem?_set_ne nz] at JK;intro yw;exact new b rb nz JK yw hk
  rw[List.getElem?_set_ne ha] at IQ;by_cases rX:i=b
  ·subst rX;rw[List.getElem?_set_self jU] at JK;obtain rfl:=zI JK;exact new a ra ha IQ hk
  rw[List.getElem?_set_ne rX] at JK;exact h.ZA a b ra rb k nz IQ JK hk
 ·rintro k (hk | hk)
  ·exact⟨(h.inT k hk).1,by rw[<-bY];exact d4 (h.inT k hk).2 hg.size⟩
  have:=Fh k hk.symm;exact⟨this.1,by rw[<-bY];exact this.2⟩
 ·rw[<-bY];exact zT h.le hg.size
 refine⟨?_,?_,?_,by rw[<-bY];exact hg.size,λk hk hT=>old k hk (λe=>hT (a4 k e).1) (λe=>hT (e ▸ e9))⟩
 ·rw[<-mJ];exact hg.os
 ·rw[<-mJ];exact hg.tape
 rw[<-mJ];exact hg.output
