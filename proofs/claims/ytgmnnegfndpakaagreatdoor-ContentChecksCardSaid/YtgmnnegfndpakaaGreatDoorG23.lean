import Derived.Test.YtgmnnegfndpakaaGreatDoorJoiA
set_option maxHeartbeats 20000000
set_option maxRecDepth 100000
namespace Go.Proofs.YtgmnnegfndpakaaGreatDoor
open Go.RowKit
def wP(w:World)(base bm:Nat)(T:Nat->Prop)(hd:Hd)(r:List aU×dR)(e:Ending)(w':World):Prop:=
 ∃(T':Nat->Prop) (pv':Value) (rs':List lK) (vf vl:Value),e= .returned (.agg #[vf,vl,.bool r.2.empty])/\gV w' base T' bm hd r.1 pv' rs'/\(∀k,T k->T' k)/\(∀k,T' k->T k\/w.heap.size<=k)/\Kept T w w'/\iT w' base (λk=>w.heap.size<=k/\¬T' k) r.2 vf vl
def tu(pl:List aU):Prop:=∀(i:Nat) (q:aU),pl[i]?=some q->q.follow.length<=300000
def QW(p:aJ):Prop:=∀(num:Nat) (cs:List Value) (w:World) (base bm:Nat) (T:Nat->Prop) (hd:Hd) (pl:List aU) (pv:Value) (rs:List lK),gV w base T bm hd pl pv rs->au w (· <base) (aZ p) cs->tu pl->pl.length+ja p<=1000->num+dh p<1000000->
 Calls Tryz.prog 167 #[.pointer (some ⟨bm,0,none⟩),.agg cs.toArray,.int .i64 num] w (wP w base bm T hd (kL p num pl))
def Mc(p:aJ):Prop:=∀(num:Nat) (cs:List Value) (w:World) (base bm:Nat) (T:Nat->Prop) (hd:Hd) (pl:List aU) (pv:Value) (rs:List lK),gV w base T bm hd pl pv rs->au w (· <base) (aZ p) cs->tu pl->pl.length+lJ p<=1000->num+dh p<1000000->
 Calls Tryz.prog 124 #[.pointer (some ⟨bm,0,none⟩),.agg cs.toArray,.int .i64 num] w (wP w base bm T hd (fV p num pl))
theorem ZV(once:List aU->List aU×dR):∀(n:Nat) (pl:List aU) (out:dR),kY once (n+1) pl out=(dB (once (kY once n pl out).1).1 (kY once n pl out).2 (once (kY once n pl out).1).2,fG (kY once n pl out).2 (once (kY once n pl out).1).2)
 | 0,pl,out=>by rw[kY,kY,kY]
 | n+1,pl,out=>by
   rw[kY,ZV once n];rw[show kY once (n+1) pl out=kY once n (dB (once pl).1 out (once pl).2) (fG out (once pl).2) from rfl]
theorem ZW(once:List aU->List aU×dR):∀(n:Nat) (pl:List aU) (tail:dR),mY once (n+1) pl tail=(dB (once (mY once n pl tail).1).1 (once (mY once n pl tail).1).2 (mY once n pl tail).2,{ fG (once (mY once n pl tail).1).2 (mY once n pl tail).2 with empty:=true })
 | 0,pl,tail=>by rw[mY,mY,mY]
 | n+1,pl,tail=>by
   rw[mY,ZW once n];rw[show mY once (n+1) pl tail=mY once n (dB (once pl).1 (once pl).2 tail) { fG (once pl).2 tail with empty:=true } from rfl]
theorem tu.made{pl:List aU}{r:List aU×dR}{L:List LI->Prop}{m n:Nat}(h:tu pl)(hm:Made pl.length pl r L)(hb:Bd pl.length m n r)(h1:m<=300000):tu r.1:=λi q hq=>by
 rcases Nat.lt_or_ge i pl.length with aN | jT
 ·rw[hm.pre i aN] at hq
  exact h i q hq
 ·exact zT (hb.qI i q jT hq) h1
theorem afO{p:aJ}(hg:kR p=true)(hn:dh p<=40)(hc:ja p<=200)(num:Nat)(pl:List aU)(j:Nat):
 Made pl.length pl (kY (kL p num) j pl oN) (qO (λw=>w=[]) (qP (rW p num) j))/\Bd pl.length (202800+j*ja p) (j*ja p) (kY (kL p num) j pl oN):=by
 have hm:=wK p hg hn num;have h1:=JH hm j (Made.nil pl);have hb:∀pl,Bd pl.length 202800 (ja p) (kL p num pl):=λpl=>(Ik p hg hn hc num pl).up zO;have h2:=Yu hm hb j (Made.nil pl) ((Bd.nil pl true).up (m':=202800) zO) (zR _);rw[Nat.zero_add] at h2;exact⟨h1,h2⟩
theorem arx{p:aJ}(hg:kR p=true)(hn:dh p<=40)(hc:ja p<=200)(num:Nat)(pl:List aU)(j:Nat)(hj:j*ja p<=200):
 Made pl.length pl (mY (kL p num) j pl oN) (λw=>∃m,m<=j+0/\qP (rW p num) m w)/\Bd pl.length (202800+j*200) (j*ja p) (mY (kL p num) j pl oN):=by
 have hm:=wK p hg hn num;have h0:=(Made.nil pl).wJ (L':=λw=>∃m,m<=0/\qP (rW p num) m w) (λw=>⟨λh=>⟨0,zR _,h⟩,λ⟨m,h1,h2⟩=>by obtain rfl:m=0:=Nat.le_zero.1 h1;exact h2⟩);have h1:=JI hm j 0 h0;have hb:∀pl,Bd pl.length 202800 (ja p) (kL p num pl):=λpl=>(Ik p hg hn hc num pl).up zO;have h2:=Yv (K:=200) hm hb j (Made.nil pl) ((Bd.nil pl true).up (m':=202800) zO) (zR _) zO;rw[Nat.zero_add] at h2;exact⟨h1,h2⟩
def qx{α:Type}(f:α->α->Bool):List α->List α->Bool
 | [],[]=>true
 | x::l,y::l'=>f x y&&qx f l l'
 | _,_=>false
theorem Ib{α:Type}{f:α->α->Bool}{l l':List α}{i:Nat}{x y:α}(hx:l[i]?=some x)(hy:l'[i]?=some y):qx f (l.drop i) (l'.drop i)=(f x y&&qx f (l.drop (i+1)) (l'.drop (i+1))):=by
 obtain⟨h1,rfl⟩:=List.getElem?_eq_some_iff.1 hx;obtain⟨h2,rfl⟩:=List.getElem?_eq_some_iff.1 hy;rw[nZ h1,nZ h2,qx]
theorem Sj{α:Type}{f:α->α->Bool}:∀{l l':List α},l.length≠l'.length->qx f l l'=false
 | [],[],h=>absurd rfl h
 | [],_::_,_=>by simp[qx]
 | _::_,[],_=>by simp[qx]
 | x::l,y::l',h=>by rw[qx,Sj (by simpa using h),Bool.and_false]
theorem ak0{α:Type}{f:α->α->Bool}{l l':List α}{i:Nat}(h:l.length<=i\/l'.length<=i)(hi:i<=l.length)(DT:i<=l'.length):qx f (l.drop i) (l'.drop i)=decide (l.length=l'.length):=by
 by_cases e:l.length=l'.length
 ·rw[z14 zO,z14 zO,qx,e]
  simp
 ·rw[Sj (by rw[List.length_drop,List.length_drop];omega)]
  simp[e]
def Ox(a b:Nat):Bool:=a==b
def YV(x y:Nm):Bool:=eqS x.1 y.1&&eqS x.2 y.2
theorem adE(l l':List Nat)(A A':Option Addr)(n n' c c':Nat)(w:World)(F F':Nat->Prop)(h1:aY w F 1 aV l A n)(h2:aY w F' 1 aV l' A' n')(hn:n<6000000000000):
 Rt 40 #[.slice A n c,.slice A' n' c'] w (.bool (qx Ox l l')):=by
 have aI:=h1.here (λx=>by simp[aV]);have kK:=h2.here (λx=>by simp[aV]);clear h1 h2;by_cases JC:n=n'
 ·subst JC
  have jm:(!((n:Int)==(n:Int)))=false:=by simp
  go_enter Tryz.func40,Tryz.ntmps40;go_wp2_with fail
  go_loopw [5] (λsi wr=>∃i:Nat,i<=n/\si= .int .i64 i/\Hid (qx Ox l l'=qx Ox (l.drop i) (l'.drop i))/\Bw w wr)
   (λsi _=>n - (intOf si).toNat)
  case atStart=>exact⟨0,zO,rfl,zH rfl,Below.refl _ _⟩
  case round=>
   obtain⟨i,hi,rfl,HL,aH⟩:=hrel;by_cases aN:i<n
   ·obtain⟨b1,xU,x,HX,p0,dO⟩:=(aI.below aH).nat aN c
    obtain⟨b2,ahT,y,HY,r0,hiy⟩:=(kK.below aH).nat aN c';have hd:decide (i<n)=true:=(by simp;omega);obtain⟨v,hv⟩:=zF (Ox x y)
    have hq1:((x:Int)==(y:Int))=v:=by
     rw[<-hv];unfold Ox;by_cases e:x=y
     ·subst e;simp
     ·rw[beq_eq_false_iff_ne.2 e,beq_eq_false_iff_ne.2 (λh=>e zO)]
    have hq2:((x:Int) !=(y:Int))=!v:=(by rw[bne,hq1]);have HV:=zH hv;clear hv;cases v
    ·rw[Bool.not_false] at hq2
     go_wp2_with fail
     go_quiet (fail)
     go_wp2_with fail;go_ret;exact⟨aK (by rw[HL.out,Ib HX.out HY.out,HV.out];rfl),aH.drewN _⟩
    ·rw[Bool.not_true] at hq2
     go_wp2_with fail
     go_quiet (fail)
     go_wp2_with fail;go_roundw
     case rel=>exact⟨i+1,zO,by go_num,zH (by rw[HL.out,Ib HX.out HY.out,HV.out];rfl),aH.drewN _⟩
     case measure=>simp[intOf];omega
   ·have hd:decide (i<n)=false:=by simp;omega
    have zU:l.drop i=[]:=z14 (by have:=aI.len;omega);have auj:l'.drop i=[]:=z14 (by have:=kK.len;omega);have HE:=zH zU;have HE':=zH auj;clear zU auj;go_wp2_with fail;go_ret;exact⟨aK (by rw[HL.out,HE.out,HE'.out];rfl),aH⟩
 ·have Xh:Hid (qx Ox l l'=false):=Sj (by have:=aI.len;have:=kK.len;omega)
  have hb:(((n:Int)==(n':Int)))=false:=by simp;omega
  have ag:(((n:Int) !=(n':Int)))=true:=by simp;omega
  clear JC;go_enter Tryz.func40,Tryz.ntmps40;go_wp2_with fail;go_ret;exact⟨aK Xh.out.symm,Below.refl _ _⟩
theorem adF(l l':List Nm)(A A':Option Addr)(n n' c c':Nat)(w:World)(F F':Nat->Prop)(h1:aY w F 2 dK l A n)(h2:aY w F' 2 dK l' A' n')(hn:n<6000000000000):
 Rt 19 #[.slice A n c,.slice A' n' c'] w (.bool (qx YV l l')):=by
 have aI:=h1.here Iu;have kK:=h2.here Iu
 have HE:Hid (∀i,(n<=i\/n'<=i)->i<=n->i<=n'->qx YV (l.drop i) (l'.drop i)=decide ((n:Int)=(n':Int))):=zH λi h hi DT=>by
  rw[ak0 (by have:=aI.len;have:=kK.len;omega) (by have:=aI.len;omega) (by have:=kK.len;omega)];have:=aI.len;have:=kK.len;exact decide_eq_decide.2 zO
 clear h1 h2;go_enter Tryz.func19,Tryz.ntmps19;go_wp2_with fail
 go_loopw [5] (λsi wr=>∃i:Nat,i<=n/\i<=n'/\si= .int .i64 i/\Hid (qx YV l l'=qx YV (l.drop i) (l'.drop i))/\Bw w wr)
  (λsi _=>n - (intOf si).toNat)
 case atStart=>exact⟨0,zO,zO,rfl,zH rfl,Below.refl _ _⟩
 case round=>
  obtain⟨i,hi,DT,rfl,HL,aH⟩:=hrel;by_cases aN:i<n
  ·have hd:decide (i<n)=true:=by simp;omega
   by_cases amT:i<n'
   ·have hd':decide (i<n')=true:=by simp;omega
    obtain⟨b1,xU,x1,x2,HX,p0,p1,dO⟩:=(aI.below aH).name aN c;obtain⟨b2,ahT,y1,y2,HY,r0,r1,hiy⟩:=(kK.below aH).name amT c';obtain⟨v,hv⟩:=zF ((eqS x1 y1&&eqS x2 y2));have hq:∀W,(binOp .neq 23 (.agg #[.string x1,.string x2]) (.agg #[.string y1,.string y2])).run Tryz.prog W= .ok (.bool (!v)) W:=λW=>(by rw[Qu,hv]);have HV:Hid (YV (x1,x2) (y1,y2)=v):=zH hv;clear hv;go_wp2_with fail;cases v
    ·go_quiet (fail)
     go_wp2_with fail;go_ret;exact⟨aK (by rw[HL.out,Ib HX.out HY.out,HV.out];rfl),aH.drewN _⟩
    ·go_quiet (fail)
     go_wp2_with fail;go_roundw
     case rel=>exact⟨i+1,zO,zO,by go_num,zH (by rw[HL.out,Ib HX.out HY.out,HV.out];rfl),aH.drewN _⟩
     case measure=>simp[intOf];omega
   ·have hd':decide (i<n')=false:=by simp;omega
    have H:=zH (HE.out i zO hi DT);go_wp2_with fail;go_ret;exact⟨aK (by rw[HL.out,H.out];rfl),aH⟩
  ·have hd:decide (i<n)=false:=by simp;omega
   have H:=zH (HE.out i zO hi DT);go_wp2_with fail;go_ret;exact⟨aK (by rw[HL.out,H.out];rfl),aH⟩
end Go.Proofs.YtgmnnegfndpakaaGreatDoor
