import Derived.Test.YtgmnnegfndpakaaGreatDoorO1
import Derived.Test.YtgmnnegfndpakaaGreatDoorT05
set_option maxHeartbeats 20000000
set_option maxRecDepth 100000
namespace Go.Proofs.YtgmnnegfndpakaaGreatDoor
open Go.RowKit Go.Proofs.Tryz
theorem avP:∀{a b:List Nat},qx Ox a b=true↔a=b
 | [],[]=>by simp[qx]
 | [],_::_=>by simp[qx]
 | _::_,[]=>by simp[qx]
 | x::a,y::b=>by
   rw[qx,z7,avP,i7];unfold Ox;simp
def SqI(W:World)(base:Nat)(ls:List (List Nat))(v:Value):Prop:=∃hs:List Hdr,ax W base 58 1 zx hs v/\qg W base aV hs ls
section
variable {W W':World} {base:Nat} {ls:List (List Nat)} {v:Value}
theorem SqI.keep(h:SqI W base ls v)(hk:∀q,base<=q->q<W.heap.size->W'.heap[q]?=W.heap[q]?):SqI W' base ls v:=by
 obtain⟨hs,ho,hr⟩:=h;exact⟨hs,ho.bu λq hq=>hk q (ho.block_lt hq).1 (ho.block_lt hq).2,hr.keep λx hx q hq=>hk q (hr.lt hx hq).1 (hr.lt hx hq).2.1⟩
theorem SqI.below(h:SqI W base ls v)(hb:Bw W W'):SqI W' base ls v:=h.keep λq _ hq=>hb.block q hq
theorem SqI.a0T{b:Nat}(h:SqI W base ls v)(hb:b<=base):SqI W b ls v:=by
 obtain⟨hs,ho,hr⟩:=h;exact⟨hs,ho.a0T hb,hr.len,λi l x hl hx=>(hr.row i l x hl hx).a0T hb⟩
theorem SqI.nil:SqI W base [] ():=⟨[],ax.nil _ _ _ _ _,qg.nil⟩
theorem SqI.form(h:SqI W base ls v):∃A c,v= .slice A ls.length c:=by
 obtain⟨hs,ho,hr⟩:=h;rw[<-hr.len];exact ho.form
theorem SqI.block_lt(h:SqI W base ls v){q:Nat}(hq:v.ownBlock=q):base<=q/\q<W:=by
 obtain⟨hs,ho,hr⟩:=h;exact ho.block_lt hq
theorem SqI.bC(h:SqI W base ls v){q:Nat}(hq:v.ownBlock=q):∃cs,W.heap[q]?=some (.cells cs 58 (0,0)):=by
 obtain⟨hs,ho,hr⟩:=h;exact ho.bC hq
theorem SqI.at_{A:Option Addr}{n c:Nat}(h:SqI W base ls (A,n,c)){i:Nat}(hi:i<n):∃b off l B m d,Hid (ls[i]?=some l)/\ax W base 3 1 aV l (.slice B m d)/\base<=b/\b<W.heap.size/\W.cell? ⟨b,off+i,none⟩=some (.slice B m d)/\
 ∀W,(Instr.indexAt 49 (A,n,c) i).run prog W= .ok (.pointer (some ⟨b,off+i,none⟩)) W:=by
 obtain⟨hs,ho,hr⟩:=h;obtain⟨A',c',e,aI,-,-⟩:=ho.rowAt YS zD (λq=>base<=q/\q<W.heap.size) λq hq=>ho.block_lt hq;obtain⟨rfl,rfl,rfl⟩:=z19 e;obtain⟨b,off,hA,hb,-⟩:=aI.2 zO;obtain⟨b',off',x,HX,x0,dO⟩:=aI.hdr hi c;obtain⟨l,hl,XJ⟩:=hr.get HX;have e1:=dO W;have e2:=dN (P:=prog) 49 58 1 underlying49 (λw=>by kernel_rfl) hA hs.length c i hi W;rw[e1] at e2
 have e3:b'=b:=by
  simp at e2;exact e2.1
 subst e3;exact⟨b',off',l,x.A,x.n,x.c,zH hl,XJ,hb.1,hb.2,x0,dO⟩
end
structure aVy (v v':Value) (w w':World):Prop where
 kept:Kept (λq=>v.ownBlock=some q) w w'
 own:∀q,v'.ownBlock=some q->v.ownBlock=some q\/w.heap.size<=q
theorem aZ5(ls:List (List Nat))(s:List Nat)(A:Option Addr)(n c:Nat)(sA:Option Addr)(sn sc:Nat)(w:World)(base:Nat)(h:SqI w base ls (A,n,c))(hs0:ax w base 3 1 aV s (sA,sn,sc))(hlen:ls.length<100000000)(XI:sn<1000000)(hwl:∀x∈ls,x.length<1000000)(hb:base<=w):
 Cl 95 #[(A,n,c),(sA,sn,sc)] w λe w'=>∃v',e= .returned v'/\SqI w' base (ayI s ls) v'/\aVy (A,n,c) v' w w':=by
 have hn:n=ls.length:=by
  obtain⟨A',c',e⟩:=h.form;exact(z19 e).2.1
 obtain⟨H,HS,HN,HWL,HL,HB⟩:=zJ6 h hs0 hn hwl hlen hb;have gX:n<100000000:=zO;clear h hs0 hn hwl hlen hb;go_enter func95,ntmps95;go_wp2_with fail
 go_loopw [5] (λs5 W=>∃i:Nat,i<=n/\s5= i/\Hid (∀(j:Nat) x,j<i->ls[j]?=some x->x≠s)/\Bw w W) (λs5 _=>n - (intOf s5).toNat)
 case atStart=>exact⟨0,zO,rfl,zH (λj x hj=>by omega),j9 _ _⟩
 obtain⟨i,hi,rfl,HI,dU⟩:=hrel;have HBR:=zH dU;by_cases aN:i<n
 ·have hd:=zT1 ((i:Int)<(n:Int));obtain⟨b,off,l,B,m,d,HX,XJ,-,-,x0,dO⟩:=(H.below dU).at_ aN
  have hm:m<1000000:=by
   have h1:=HWL l (SK HX);rw[<-XJ.a0U.1] at h1;exact h1
  obtain⟨bv,jS⟩:=zF (qx Ox l s)
  have HC:Hid (Rt 40 #[(B,m,d),(sA,sn,sc)] wr bv):=zH (by
   have h1:=XJ.a0U;have h2:=(HS.keep dU).a0U;rw[<-h1.1] at h1;rw[<-h2.1] at h2;rw[<-jS]
   exact adE l s B sA m sn d sc wr _ _ h1.2 h2.2 zO)
  have U9:=zH jS;clear XJ dU jS;go_wp2_with fail;refine HC.mono ?_;rintro e w2 ⟨rfl,ag⟩;have aA7:=HBR.seq ag;cases bv
  ·have HI2:Hid (∀(j:Nat) x,j<i+1->ls[j]?=some x->x≠s):=zH λj x hj hx=>by
    by_cases e:j=i
    ·subst e;obtain rfl:=zI (HX.symm.trans hx);intro e2;rw[avP.2 e2] at U9;cases U9.out
    exact HI j x zO hx
   go_wp2_with fail;go_roundw
   case rel=>exact⟨i+1,zO,by go_num,HI2,aA7⟩
   simp[intOf];omega
  have jb:ayI s ls=ls:=by
   unfold ayI;rw[j6];have h1:=avP.1 U9;rw[<-h1];exact SK HX
  have HM:=zH jb;clear jb;go_wp2_with fail;go_ret;refine⟨_,rfl,?_,Qh aA7,λq hq=>.inl hq⟩;rw[HM.out];exact H.below aA7
 obtain rfl:i=n:=zO;have hd:=zT2 ((i:Int)<(i:Int))
 have aVz:ayI s ls=ls++[s]:=by
  unfold ayI;rw[j5];intro h1;obtain⟨j,hj⟩:=List.mem_iff_getElem?.1 h1;exact HI j s (by have:=(z4.1 hj).1;have:=HN.out;omega) hj rfl
 obtain⟨w3,vU,S3,su,az⟩:=af wr (Zc #[(sA,sn,sc)] 58);have avT:=dU.seq az;obtain⟨hs,ho,hr⟩:=H.below avT;have bY:base<=w3:=(by have:=HB.out;have:=avT.size;omega);obtain⟨v',w4,bG,Ed,CY,jA⟩:=VN w3 base hs _ ho wr 1 ⟨sA,sn,sc⟩ (aO S3) (by rw[hr.len];have:=HL.out;omega) bY 49;have jl:Kept (λq=>(Value.slice A i c).ownBlock=some q) w w4:=(Qh avT).trans ⟨CY.os,CY.tape,CY.output,CY.size,λk hk hn=>CY.block k hk λe=>hn e.symm⟩
 have HR:Hid (SqI w4 base (ayI s ls) v'):=zH (by
  rw[aVz];refine⟨_,Ed,qg.snoc (hr.keep λx hx q hq=>CY.block q (hr.lt hx hq).2.1 λe=>?_) ?_⟩
  ·obtain⟨cs,hc⟩:=ho.bC e.symm;obtain⟨-,-,cs',yu⟩:=hr.lt hx hq;exact iP yu hc zD rfl
  refine (HS.keep avT).bu λq hq=>CY.block q ((HS.keep avT).block_lt hq).2 λe=>?_;obtain⟨cs,hc⟩:=ho.bC e.symm;obtain⟨cs',yu⟩:=(HS.keep avT).bC hq
  exact iP yu hc zD rfl)
 have HK:Hid (aVy (A,i,c) v' w w4):=zH ⟨jl,λq hq=>by
  rcases jA with e | e
  ·exact .inl (e ▸ hq)
  rw[e] at hq;obtain rfl:=zI hq
  exact .inr avT.size⟩
 have qB:=zH bG;obtain⟨A4,c4,hv4⟩:=Ed.form;obtain⟨n4,hn4⟩:=zF ((hs++[(⟨sA,sn,sc⟩:Hdr)]).length);rw[hn4] at hv4;subst hv4;clear aVz ho hr Ed CY jA jl bG dU avT S3 az hn4
 go_wp2_with (at_builtin;refine wO rfl (.tmp 19) (.tmp 21) 49 rfl (v1:=(A,i,c)) (v2:=.slice (some ⟨wr,0,none⟩) 1 1) rfl rfl qB ?_)
 go_ret;exact⟨_,rfl,HR,HK⟩
def InA(P0:List Nat->Prop)(F R:List (List Nat))(a:Nat)(s:List Nat):Prop:=P0 s\/∃i x y,i<a/\F[i]?=some x/\y∈R/\s=x++y
def InB(P0:List Nat->Prop)(F R:List (List Nat))(a b:Nat)(s:List Nat):Prop:=InA P0 F R a s\/∃x j y,F[a]?=some x/\j<b/\R[j]?=some y/\s=x++y
section
variable {P0:List Nat->Prop} {F R:List (List Nat)} {a b:Nat} {s x y:List Nat}
theorem a0C:InA P0 F R 0 s↔P0 s:=⟨λh=>h.elim id λ⟨_,_,_,h,_⟩=>absurd h (Nat.not_lt_zero _),.inl⟩
theorem a0D:InB P0 F R a 0 s↔InA P0 F R a s:=⟨λh=>h.elim id λ⟨_,_,_,_,h,_⟩=>absurd h (Nat.not_lt_zero _),.inl⟩
theorem a0K(hx:F[a]?=x):InB P0 F R a R.length s↔InA P0 F R (a+1) s:=by
 constructor
 ·rintro (h | ⟨x',j,y,h1,_,h3,e⟩)
  ·rcases h with h | ⟨i,x,y,h1,h2⟩
   ·exact .inl h
   exact .inr ⟨i,x,y,zO,h2⟩
  exact .inr ⟨a,x',y,zO,h1,SK h3,e⟩
 rintro (h | ⟨i,x',y,h1,h2,h3,e⟩)
 ·exact .inl (.inl h)
 by_cases hi:i=a
 ·subst hi;obtain⟨j,hj⟩:=List.mem_iff_getElem?.1 h3;exact .inr ⟨x',j,y,h2,(z4.1 hj).1,hj,e⟩
 exact .inl (.inr ⟨i,x',y,zO,h2,h3,e⟩)
theorem a0E(hx:F[a]?=x)(hy:R[b]?=y):InB P0 F R a (b+1) s↔InB P0 F R a b s\/s=x++y:=by
 constructor
 ·rintro (h | ⟨x',j,y',h1,h2,h3,e⟩)
  ·exact .inl (.inl h)
  by_cases hj:j=b
  ·subst hj;obtain rfl:=zI (hx.symm.trans h1);obtain rfl:=zI (hy.symm.trans h3);exact .inr e
  exact .inl (.inr ⟨x',j,y',h1,zO,h3,e⟩)
 rintro (h | e)
 ·rcases h with h | ⟨x',j,y',h1,h2,h3⟩
  ·exact .inl h
  exact .inr ⟨x',j,y',h1,zO,h3⟩
 exact .inr ⟨x,b,y,hx,zO,hy,e⟩
theorem aRG:InA P0 F R F.length s↔P0 s\/∃x y,x∈F/\y∈R/\s=x++y:=by
 constructor
 ·rintro (h | ⟨i,x,y,_,h2,h3⟩)
  ·exact .inl h
  exact .inr ⟨x,y,SK h2,h3⟩
 rintro (h | ⟨x,y,h2,h3⟩)
 ·exact .inl h
 obtain⟨i,hi⟩:=List.mem_iff_getElem?.1 h2;exact .inr ⟨i,x,y,(z4.1 hi).1,hi,h3⟩
def Gd(n:Nat)(s:List Nat):Prop:=s.length=n/\∀x∈s,x<50
theorem Gd.app{n m:Nat}(h:Gd n x)(k:Gd m y):Gd (n+m) (x++y):=⟨by rw[z5,h.1,k.1],λz hz=>(z12.1 hz).elim (h.2 z) (k.2 z)⟩
theorem a4J{n m:Nat}(h0:∀s,P0 s->Gd (n+m) s)(hF:∀s∈F,Gd n s)(hR:∀s∈R,Gd m s)(h:InB P0 F R a b s):Gd (n+m) s:=by
 rcases h with (h | ⟨i,x,y,_,h2,h3,rfl⟩) | ⟨x,j,y,h1,_,h3,rfl⟩
 ·exact h0 s h
 ·exact(hF x (SK h2)).app (hR y h3)
 exact(hF x (SK h1)).app (hR y (SK h3))
theorem a4K{n:Nat}{l:List (List Nat)}(hn:n<=4)(h:l.Nodup)(hs:∀s∈l,Gd n s):l.length<=6250000:=by
 have h1:=few (N:=50) h hs;have h2:50 ^ n<=50 ^ 4:=Nat.pow_le_pow_right zD hn;omega
end
structure WyI (w1 wa wd W:World) (ls:List (List Nat)) (v:Value) (P:List Nat->Prop):Prop where
 sq:SqI W w1 ls v
 nd:ls.Nodup
 mem:∀s,s∈ls↔P s
 own:∀q,v.ownBlock=some q->q<wa.heap.size\/wd.heap.size<=q
 bel:Bw w1 W
 same:∀q,wa.heap.size<=q->q<wd.heap.size->W.heap[q]?=wd.heap[q]?
 size:wd<=W.heap.size
section
variable {w1 wa wd W W3 W4:World} {ls:List (List Nat)} {v v':Value} {P P':List Nat->Prop}
theorem WyI.congr(h:WyI w1 wa wd W ls v P)(hP:∀s,P s↔P' s):WyI w1 wa wd W ls v P':=⟨h.sq,h.nd,λs=>(h.mem s).trans (hP s),h.own,h.bel,h.same,h.size⟩
theorem WyI.add(h:WyI w1 wa wd W ls v P)(hb:Bw W W3){s:List Nat}(hs:SqI W4 w1 (ayI s ls) v')(ha:aVy v v' W3 W4):WyI w1 wa wd W4 (ayI s ls) v' (λx=>P x\/x=s):=by
 have hw:=h.bel.size;have bY:=hb.size;refine⟨hs,aUk h.nd,λx=>aYP.trans (or_congr (h.mem x) Iff.rfl),λq hq=>?_,?_,λq h1 h2=>?_,?_⟩
 ·rcases ha.own q hq with e | e
  ·exact h.own q e
  have:=h.size;exact .inr zO
 ·refine (h.bel.seq hb).trans (ha.kept.below zO λq hq e=>?_);have:=(h.sq.block_lt e).1;omega
 ·have h3:q<W:=d4 h2 h.size;rw[ha.kept.block q zO λe=>by rcases h.own q e with h4 | h4<;>omega,hb.block q h3];exact h.same q h1 h2
 have:=ha.kept.size;have:=h.size;omega
end
structure aGK (w:World) (p:aJ) (elems:List (List Nm)) (cs:List Value) (eA:Option Addr) (en:Nat):Prop where
 rep:au w (· <w) (aZ p) cs
 cap:aem w p cs
 el:bM w (· <w) 1 (elems.map nU) eA en
theorem aGK.below{w w':World}{p:aJ}{elems:List (List Nm)}{cs:List Value}{eA:Option Addr}{en:Nat}(h:aGK w p elems cs eA en)(hb:Bw w w'):aGK w' p elems cs eA en:=⟨h.rep.keepW hb,h.cap.keepW hb,h.el.keepW hb⟩
def aGL(S:List Nat->Prop)(w:World)(e:Ending)(w':World):Prop:=∃v ls,e= .returned v/\SqI w' w ls v/\ls.Nodup/\(∀s,s∈ls↔S s)/\Bw w w'
def avw(acc:aJ->Nm->Bool)(p:aJ)(num:Nat)(low high:Int)(u:List Nm)(i:Nat)(s:List Nat):Prop:=
 (u=[]/\s=[]/\low=0)\/∃j,j<i/\j<=u.length/\¬(j=0/\low=0)/\∃f r,s=f++r/\agU acc p num (u.take j) f/\ajt acc p num (max (low - 1) 0) (max (high - 1) (-1)) (u.drop j) r
section
variable {acc:aJ->Nm->Bool} {p:aJ} {num i:Nat} {low high:Int} {u:List Nm} {s:List Nat}
theorem aOr:avw acc p num low high u 0 s↔u=[]/\s=[]/\low=0:=⟨λh=>h.elim id λ⟨_,h,_⟩=>absurd h (Nat.not_lt_zero _),.inl⟩
theorem a0l(h:(i=0/\low=0)\/∀f,¬agU acc p num (u.take i) f):avw acc p num low high u (i+1) s↔avw acc p num low high u i s:=by
 constructor
 ·rintro (h1 | ⟨j,h1,h2,h3,f,r,h4,h5,h6⟩)
  ·exact .inl h1
  by_cases e:j=i
  ·subst e
   rcases h with h | h
   ·exact absurd h h3
   exact absurd h5 (h f)
  exact .inr ⟨j,zO,h2,h3,f,r,h4,h5,h6⟩
 rintro (h1 | ⟨j,h1,h2⟩)
 ·exact .inl h1
 exact .inr ⟨j,zO,h2⟩
theorem a0m{F R:List (List Nat)}(hi:i<=u.length)(hz:¬(i=0/\low=0))(hF:∀s,s∈F↔agU acc p num (u.take i) s)(hR:∀s,s∈R↔ajt acc p num (max (low - 1) 0) (max (high - 1) (-1)) (u.drop i) s):
 InA (avw acc p num low high u i) F R F.length s↔avw acc p num low high u (i+1) s:=by
 rw[aRG];constructor
 ·rintro ((h1 | ⟨j,h1,h2⟩) | ⟨x,y,h1,h2,e⟩)
  ·exact .inl h1
  ·exact .inr ⟨j,zO,h2⟩
  exact .inr ⟨i,zO,hi,hz,x,y,e,(hF x).1 h1,(hR y).1 h2⟩
 rintro (h1 | ⟨j,h1,h2,h3,f,r,h4,h5,h6⟩)
 ·exact .inl (.inl h1)
 by_cases e:j=i
 ·subst e;exact .inr ⟨f,r,(hF f).2 h5,(hR r).2 h6,h4⟩
 exact .inl (.inr ⟨j,zO,h2,h3,f,r,h4,h5,h6⟩)
theorem a0H(h0:0<=low)(hh:high= -1\/low<=high)(hz:high≠0):avw acc p num low high u (u.length+1) s↔ajt acc p num low high u s:=by
 rw[aYD h0 hh];constructor
 ·rintro (h | ⟨j,_,h2,h3,h4⟩)
  ·exact .inl h
  exact .inr ⟨hz,j,h2,h3,h4⟩
 rintro (h | ⟨_,j,h2,h3,h4⟩)
 ·exact .inl h
 exact .inr ⟨j,zO,h2,h3,h4⟩
theorem aOs(h0:0<=low)(hh:high= -1\/low<=high)(hz:high=0):(u=[]/\s=[]/\low=0)↔ajt acc p num low high u s:=by
 rw[aYD h0 hh];exact⟨.inl,λh=>h.elim id λh=>absurd hz h.1⟩
theorem a0L(hn:num+dh p<=50)(h:avw acc p num low high u i s):Gd u.length s:=by
 rcases h with ⟨rfl,rfl,-⟩ | ⟨j,_,h2,_,f,r,rfl,h5,h6⟩
 ·exact⟨rfl,λx hx=>by cases hx⟩
 refine⟨by rw[z5,aYW h5,aYV h6,Ju,List.length_drop];omega,λx hx=>?_⟩
 rcases z12.1 hx with hx | hx
 ·have:=aYY h5 x hx;omega
 have:=aYX h6 x hx;omega
end
theorem a0n{W W':World}(h:W'.heap[W.heap.size]?=Zc #[] 3):ax W' W 3 1 aV [] (W,0,0,0):=⟨rfl,.inr ⟨_,0,_,rfl,zR _,h,zR _,by unfold maxLen;omega,rfl,rfl⟩⟩
theorem a0I(p:aJ)(elems:List (List Nm))(cs:List Value)(eA:Option Addr)(en ec num:Nat)(lQ:num+dh p<=50)
 (aPQ:∀(u:List Nm) (W:World) (alH:Option Addr) (un uc:Nat),aGK W p elems cs eA en->aY W (· <W) 2 dK u alH un->un<=4->un<=uc->
   Cl 96 #[.agg cs.toArray,(eA,en,ec),(alH,un,uc),num] W (aGL (agU (Gf elems) p num u) W)):
 ∀(N:Nat) (M:Nat) (u:List Nm) (low high:Int) (w:World) (alH:Option Addr) (un uc:Nat),u.length=N->low.toNat=M->0<=low->low<=1000->(high= -1\/low<=high)->high<=1000->aGK w p elems cs eA en->aY w (· <w) 2 dK u alH un->un<=4->un<=uc->
  Cl 38 #[.agg cs.toArray,(eA,en,ec),(alH,un,uc),.int .i64 (num:Int),low,high] w (aGL (ajt (Gf elems) p num low high u) w):=by
 intro N
 induction N using Nat.strongRecOn with
 | _ N ihN=>
   intro M
   induction M using Nat.strongRecOn with
   | _ M ihM=>
     intro u low high w alH un uc hN hM h0 aPR hh hh2 hL hu JL huc;obtain⟨k,mn,mx,el,ck,ns,nl,sp,A1,n1,c1,A2,n2,c2,pr,A0,n0,c0,rfl,-⟩:=aW hL.rep;obtain⟨w1,bI,S1,nC,ai⟩:=zP1 w k mn mx el ck ns nl sp A1 n1 c1 A2 n2 c2 pr A0 n0 c0;have q0:=aj S1;have hlen:un=u.length:=hu.1;obtain⟨HOH,Po,HIM,HL,HU,aQ,nK,HN⟩:=zJ8 aPQ ihN ihM hL hu S1 ai hN;obtain⟨HM,HH,pR,acC⟩:=zJ4 hM hh hlen lQ;have HUN:Hid (un<=4):=zH JL;clear aPQ ihN ihM hL hu S1 ai hN hM hh hlen lQ;obtain⟨st,bZ⟩:=zF (decide (un=0/\low=0));have sV:=zH bZ;clear bZ;go_enter func38,ntmps38;go_upto_region 2 with fail
     go_cut [25] (λs25 W=>s25= st/\W=w1)
     case first=>
      by_cases hu0:un=0
      ·subst hu0;have jV:decide (((0:Nat):Int)=0)=true:=zS4;by_cases Me:low=0
       ·subst Me;obtain rfl:true=st:=(by rw[<-sV.out];rfl);go_wp2_with fail;go_meet;exact⟨rfl,rfl⟩
       have gJ:decide (low=0)=false:=(by simpa using Me);have aQd:(low==0)=false:=(by simpa using Me);obtain rfl:false=st:=(by rw[<-sV.out];exact(decide_eq_false λh=>Me h.2).symm);go_wp2_with fail;go_meet;exact⟨(by first | rfl | rw[aQd]),rfl⟩
      have jV:=zT2 ((un:Int)=0);obtain rfl:false=st:=(by rw[<-sV.out];exact(decide_eq_false λh=>hu0 h.1).symm);go_wp2_with fail;go_meet;exact⟨rfl,rfl⟩
     obtain⟨rfl,hwc⟩:=hcut;subst wc;go_upto_if 25 with fail
     go_cut [13] (λQF W=>∃(ls:List (List Nat)) (A:Option Addr) (n c:Nat),QF= (A,n,c)/\Hid (SqI W w1 ls (A,n,c)/\ls.Nodup/\∀s,s∈ls↔(u=[]/\s=[]/\low=0))/\Bw w1 W)
     case first=>
      cases st
      ·have HNO:Hid (¬(un=0/\low=0)):=zH (of_decide_eq_false sV);go_wp2_with fail;go_meet;exact⟨[],none,0,0,rfl,zH ⟨SqI.nil,.nil,λs=>⟨λh=>(by cases h),λh=>absurd ⟨by rw[pR.out,h.1];rfl,h.2.2⟩ HNO⟩⟩,j9 _ _⟩
      have alV:Hid (un=0/\low=0):=zH (of_decide_eq_true sV);have a0J:Hid (Cl 95 #[(),()] w1 λe w'=>∃v',e= .returned v'/\SqI w' w1 (ayI [] []) v'/\aVy () v' w1 w'):=zH (aZ5 [] [] none 0 0 none 0 0 w1 w1 SqI.nil (ax.nil _ _ _ _ _) zD zD (λx hx=>by cases hx) (zR _));go_wp2_with fail;refine a0J.mono ?_;rintro e w2 ⟨v2,rfl,aOz,aVE⟩;obtain⟨QU,Z8,xq⟩:=aOz.form;obtain⟨UG,qY⟩:=zF ((ayI ([]:List Nat) []).length);rw[qY] at xq;subst xq;have HSQ:Hid (SqI w2 w1 [[]] (QU,UG,Z8)):=zH aOz;have ag:Bw w1 w2:=aVE.kept.below (zR _) λk _ e=>(by cases e);clear aOz aVE qY;go_wp2_with fail;go_meet;exact⟨[[]],QU,UG,Z8,rfl,zH ⟨HSQ,zP,λs=>⟨λh=>⟨g9 (by rw[<-pR.out];exact alV.1),og.1 h,alV.2⟩,λh=>og.2 h.2.1⟩⟩,ag⟩
     obtain⟨wb,hwb⟩:=zE wc;subst hwb;obtain⟨ls0,oA0,oN0,oC0,rfl,HO0,dY⟩:=hcut;have Eh:=zH (nK.seq dY);have HBX:=zH dY;have uT:=zH (ae aQ dY);clear dY q0;by_cases hz:high=0
     ·have HPO:Hid (aGL (ajt (Gf elems) p num low high u) w (.returned (oA0,oN0,oC0)) wb):=zH ⟨_,ls0,rfl,HO0.1.a0T nK.size,HO0.2.1,λs=>(HO0.2.2 s).trans (aOs h0 HH hz),Eh⟩;subst hz;go_wp2_with fail;go_ret;exact HPO
     have jc:decide (high=0)=false:=(by simpa using hz);have aPa:(high==0)=false:=(by simpa using hz);have HZ0:=zH hz;go_wp2_with fail
     go_loopw [13,14] (λQF s14 W=>∃(i:Nat) (ls:List (List Nat)) (A:Option Addr) (n c:Nat),i<=un+1/\QF= (A,n,c)/\s14= i/\Hid (SqI W w1 ls (A,n,c)/\ls.Nodup/\∀s,s∈ls↔avw (Gf elems) p num low high u i s)/\Bw w1 W) (λ_ s14 _=>un+1 - (intOf s14).toNat)
     case atStart=>exact⟨0,ls0,oA0,oN0,oC0,zO,rfl,rfl,zH ⟨HO0.1,HO0.2.1,λs=>(HO0.2.2 s).trans aOr.symm⟩,HBX⟩
     obtain⟨i,ls,oA,a6D,a6E,hi,rfl,rfl,HO,dU⟩:=hrel;have aH:Bw w wr:=nK.seq dU;have q0:=aj (ae aQ dU);obtain⟨HBR,nG⟩:=zJ2 dU aH;clear dU hz jc aPa;by_cases aN:i<=un
     rotate_left 1
     ·obtain rfl:i=un+1:=zO;have sZ:decide (((un+1:Nat):Int)<=(un:Int))=false:=zS1;have HPO:Hid (aGL (ajt (Gf elems) p num low high u) w (.returned (oA,a6D,a6E)) wr):=zH ⟨_,ls,rfl,HO.1.a0T nK.size,HO.2.1,λs=>by rw[HO.2.2 s,pR.out];exact a0H h0 HH HZ0,aH⟩;clear aH;go_wp2_with fail;go_ret;exact HPO
     have sZ:=zT1 ((i:Int)<=(un:Int));by_cases hsk:i=0/\low=0
     ·obtain⟨rfl,rfl⟩:=hsk;have DZ:Hid (SqI wr w1 ls (oA,a6D,a6E)/\ls.Nodup/\∀s,s∈ls↔avw (Gf elems) p num 0 high u (0+1) s):=zH ⟨HO.1,HO.2.1,λs=>(HO.2.2 s).trans (a0l (.inl ⟨rfl,rfl⟩)).symm⟩;clear aH;go_wp2_with fail;go_roundw
      case rel=>exact⟨0+1,ls,oA,a6D,a6E,zO,rfl,by go_num,DZ,HBR⟩
      simp[intOf]
     obtain⟨lo',aHi⟩:=zF (max (low - 1) 0);obtain⟨DT,aHj⟩:=zF (max (high - 1) (-1));have iO:0<=lo'/\lo'<=1000:=zO;have aHk:DT= -1\/lo'<=DT:=(by have:=HH.out;omega);have aIe:DT<=1000:=zO;have ZU:Hid (∀W,Bw w W->Cl 96 #[.agg (o5 k mn mx el ck ns nl sp A1 n1 c1 A2 n2 c2 pr A0 n0 c0),(eA,en,ec),(alH,i,uc),num] W (aGL (agU (Gf elems) p num (u.take i)) W)):=zH λW hb=>HOH (u.take i) W alH i uc (HL.below hb) ((HU.keepW hb).hi aN) zO zO
     have Xa:Hid (∀W,Bw w W->Cl 38 #[.agg (o5 k mn mx el ck ns nl sp A1 n1 c1 A2 n2 c2 pr A0 n0 c0),(eA,en,ec),((if uc=i then alH else alH.map (·.add (i*2))),un - i,uc - i),num,lo',DT] W (aGL (ajt (Gf elems) p num lo' DT (u.drop i)) W)):=zH λW hb=>by
      have aI:=(HU.keepW hb).lo (c:=uc) aN huc;have hdl:(u.drop i).length=un - i:=(by rw[List.length_drop,<-pR.out]);by_cases UI:i=0
      ·have hlp:0<low:=by
          rcases Int.lt_or_eq_of_le h0 with h | h
          ·exact h
          exact absurd ⟨UI,h.symm⟩ hsk
       exact HIM lo'.toNat (by rw[<-HM.out];omega) (u.drop i) lo' DT W _ _ _ (by rw[hdl,UI,<-HN.out,<-pR.out];omega) rfl iO.1 iO.2 aHk aIe (HL.below hb) aI zO zO
      exact Po (u.drop i).length (by rw[hdl,<-HN.out,<-pR.out];omega) lo'.toNat (u.drop i) lo' DT W _ _ _ rfl rfl iO.1 iO.2 aHk aIe (HL.below hb) aI zO zO
     obtain⟨HLO,HHI,HSK⟩:=zJ3 aHi aHj hsk;clear aH;go_upto_region 9 with fail
     go_cut [42] (λs42 W=>s42= false/\Bw wr W)
     case first=>
      by_cases UI:i=0
      ·subst UI;have PL:decide (low=0)=false:=(by simpa using hsk);have aO8:(low==0)=false:=(by simpa using hsk);go_wp2_with fail;go_meet;exact⟨(by first | rfl | rw[aO8]),j9 _ _⟩
      have PL:=zT2 ((i:Int)=0);go_wp2_with fail;go_meet;exact⟨rfl,j9 _ _⟩
     obtain⟨we,hwe⟩:=zE wc;subst hwe;obtain⟨rfl,jm⟩:=hcut;have aOW:Bw w1 we:=HBR.seq jm;have aAb:Bw w we:=nG.seq jm;clear q0;obtain⟨hHeld,pO,a1I,aWh⟩:=zK4 (aj (ae aQ aOW.drew)) (zH jm) (zH aOW) (zH aAb);clear jm aOW aAb;have hi1:(0:Int)<=(i:Int):=zO;have hi2:(i:Int)<=(uc:Int):=zO;have jI:(i:Int)<=(un:Int):=zO;go_wp2_with fail;refine ah.start (λV=>V.cell? w=k/\V.cell? (w,1)=mn/\V.cell? (w,2)=mx/\V.cell? (w,3)=el/\V.cell? (w,4)=ck/\V.cell? (w,5)=ns/\V.cell? (w,6)=nl/\V.cell? (w,7)=sp/\V.cell? (w,8)=(A1,n1,c1)/\V.cell? (w,9)=(A2,n2,c2)/\V.cell? (w,10)=pr/\V.cell? (w,11)=(A0,n0,c0)) 7 zK ?_;refine ah.tk 0 hHeld ?_;refine ah.tk 1 hHeld ?_;refine ah.tk 2 hHeld ?_;refine ah.tk 3 hHeld ?_;refine ah.tk 4 hHeld ?_;refine ah.tk 5 hHeld ?_;refine ah.on 6 λK hK=>?_;go_simp;refine (ZU we.drew aWh.drew).mono ?_;rintro e aSe ⟨vF,F,rfl,hsF,hnF,hmF,hbF⟩;obtain⟨fA,fc,hvF⟩:=hsF.form;obtain⟨fn,hlF⟩:=zF F.length;rw[hlF] at hvF;subst hvF;have aG3:Hid (Bw w1 aSe):=zH (a1I.drew.seq hbF);have a1J:Hid (Bw w aSe):=zH (aWh.drew.seq hbF);obtain⟨HSF,HNF,HMF,HBF,HFN⟩:=zJ5 hsF hnF hmF hbF hlF.symm;clear hsF hnF hmF hbF hlF hHeld;refine di hK (λ_=>aj (ae aQ aG3)) ?_;clear hK K;refine ah.oe 7 ?_;refine ah.dn ?_;by_cases hf0:fn=0
     ·have DZ:Hid (SqI aSe w1 ls (oA,a6D,a6E)/\ls.Nodup/\∀s,s∈ls↔avw (Gf elems) p num low high u (i+1) s):=zH ⟨HO.1.below (pO.drew.seq HBF),HO.2.1,λs=>(HO.2.2 s).trans (a0l (.inr λf hf=>by
         have h1:=(HMF f).2 hf;rw[g9 (HFN.symm.trans hf0)] at h1
         cases h1)).symm⟩
      subst hf0;have FU:decide (((0:Nat):Int)=0)=true:=zS4;have a1K:(((0:Nat):Int)==0)=true:=zS4;go_wp2_with fail;go_roundw
      case rel=>exact⟨i+1,ls,oA,a6D,a6E,zO,rfl,by go_num,DZ,aG3⟩
      simp[intOf];omega
     have FU:=zT2 ((fn:Int)=0);have a1K:((fn:Int)==0)=false:=zS1;have hwl:IntKind.i64.wrap (low - 1)=low - 1:=zS3;have hwh:IntKind.i64.wrap (high - 1)=high - 1:=(by have:=HH.out;rw[IntKind.wrap_i64];omega);obtain⟨uB,huB⟩:=zF ((if uc=i then alH else alH.map (·.add (i*2))));rw[huB] at Xa;have hHeld:=aj (ae aQ aG3.drew);go_wp2_with fail;refine ah.start (λV=>V.cell? w=k/\V.cell? (w,1)=mn/\V.cell? (w,2)=mx/\V.cell? (w,3)=el/\V.cell? (w,4)=ck/\V.cell? (w,5)=ns/\V.cell? (w,6)=nl/\V.cell? (w,7)=sp/\V.cell? (w,8)=(A1,n1,c1)/\V.cell? (w,9)=(A2,n2,c2)/\V.cell? (w,10)=pr/\V.cell? (w,11)=(A0,n0,c0)) 13 zK ?_;refine ah.tk 0 hHeld ?_;refine ah.tk 1 hHeld ?_;refine ah.tk 2 hHeld ?_;refine ah.tk 3 hHeld ?_;refine ah.tk 4 hHeld ?_;refine ah.tk 5 hHeld ?_;refine ah.tk 6 hHeld ?_;refine ah.tk 7 hHeld ?_;refine ah.tk 8 hHeld ?_;refine ah.tk 9 hHeld ?_;refine ah.tk 10 hHeld ?_;refine ah.tk 11 hHeld ?_;refine ah.on 12 λK hK=>?_;go_simp;refine (Xa aSe.drew a1J.drew).mono ?_;rintro e wD ⟨vR,aO1,rfl,hsR,hnR,hmR,hbR⟩;obtain⟨rA,rc,hvR⟩:=hsR.form;obtain⟨rn,hlR⟩:=zF aO1.length;rw[hlR] at hvR;subst hvR;have a1L:Hid (Bw w1 wD):=zH (aG3.drew.seq hbR);obtain⟨HSR,HNR,PG,AO,HRN⟩:=zJ5 hsR hnR hmR hbR hlR.symm;clear hsR hnR hmR hbR hlR hHeld;refine di hK (λ_=>aj (ae aQ a1L)) ?_;clear hK K;refine ah.oe 13 ?_;refine ah.dn ?_;clear hwl hwh huB aHi aHj;have hAC:we.drew.heap.size<=aSe.drew:=HBF.size;have HFD:Hid (SqI wD we.drew F (fA,fn,fc)):=zH (HSF.below ((j9 _ _).drew.seq AO));have HRD:=HSR
     have HGF:Hid (∀s∈F,Gd i s):=zH λs hs=>by
      have h1:=(HMF s).1 hs;have h2:=acC.out;exact⟨by rw[aYW h1,Ju,<-pR.out];omega,λx hx=>by have:=aYY h1 x hx;omega⟩
     have JQ:Hid (∀s∈aO1,Gd (un - i) s):=zH λs hs=>by
      have h1:=(PG s).1 hs;have h2:=acC.out;exact⟨by rw[aYV h1,List.length_drop,<-pR.out],λx hx=>by have:=aYX h1 x hx;omega⟩
     have HG0:Hid (∀s,avw (Gf elems) p num low high u i s->Gd (i+(un - i)) s):=zH λs hs=>by
      have h1:=a0L acC hs;rw[<-pR.out] at h1;rwa [show i+(un - i)=un by omega]
     have hfb:fn<=6250000:=(by rw[HFN.out];exact a4K (by have:=HUN.out;omega) HNF HGF);have JK:rn<=6250000:=(by rw[HRN.out];exact a4K (by have:=HUN.out;omega) HNR JQ);have HN4:Hid (i+(un - i)<=4):=zH (by have:=HUN.out;omega);have HI0:Hid (WyI w1 we.drew wD wD ls (oA,a6D,a6E) (InA (avw (Gf elems) p num low high u i) F aO1 0)):=zH ⟨HO.1.below ((pO.drew.seq HBF).seq ((j9 _ _).drew.seq AO)),HO.2.1,λs=>(HO.2.2 s).trans a0C.symm,λq hq=>.inl (d4 (HO.1.block_lt hq).2 pO.size),aG3.seq ((j9 _ _).drew.seq AO),λ_ _ _=>rfl,zR _⟩;go_wp2_with fail
     go_loopw [13,17] (λso sa W=>∃(a:Nat) (ls2:List (List Nat)) (oA:Option Addr) (a6D a6E:Nat),a<=fn/\so= (oA,a6D,a6E)/\sa= a/\Hid (WyI w1 we.drew wD W ls2 (oA,a6D,a6E) (InA (avw (Gf elems) p num low high u i) F aO1 a))) (λ_ sa _=>fn - (intOf sa).toNat)
     case atStart=>exact⟨0,ls,oA,a6D,a6E,zO,rfl,rfl,HI0⟩
     rename World=>wo
     obtain⟨a,ls2,oA,a6D,a6E,ha,rfl,rfl,HA⟩:=hrel;by_cases aWo:a<fn
     rotate_left 1
     ·obtain rfl:a=fn:=zO;have hda:=zT2 ((a:Int)<(a:Int));have DZ:Hid (SqI wo w1 ls2 (oA,a6D,a6E)/\ls2.Nodup/\∀s,s∈ls2↔avw (Gf elems) p num low high u (i+1) s):=zH ⟨HA.sq,HA.nd,λs=>(HA.mem s).trans (by rw[HFN.out];exact a0m (by rw[<-pR.out];exact aN) HSK HMF (by rw[HLO.out,HHI.out];exact PG))⟩;have HBO:=zH HA.bel;go_wp2_with fail;go_roundw
      case rel=>exact⟨i+1,ls2,oA,a6D,a6E,zO,rfl,by go_num,DZ,HBO⟩
      simp[intOf];omega
     have hda:=zT1 ((a:Int)<(fn:Int));obtain⟨fx,hfx⟩:∃x,F[a]?=some x:=⟨_,z6 (by rw[<-HFN.out];exact aWo)⟩;have HFX:=zH hfx;clear hfx;go_wp2_with fail
     go_loopw [13,18] (λso sb W=>∃(b:Nat) (ls3:List (List Nat)) (pA:Option Addr) (pN pC:Nat),b<=rn/\so= (pA,pN,pC)/\sb= b/\Hid (WyI w1 we.drew wD W ls3 (pA,pN,pC) (InB (avw (Gf elems) p num low high u i) F aO1 a b))) (λ_ sb _=>rn - (intOf sb).toNat)
     case atStart=>exact⟨0,ls2,oA,a6D,a6E,zO,rfl,rfl,zH (HA.congr λs=>a0D.symm)⟩
     rename World=>wi
     obtain⟨b,ls3,pA,pN,pC,hb,rfl,rfl,HB⟩:=hrel;by_cases a1M:b<rn
     rotate_left 1
     ·obtain rfl:b=rn:=zO;have hdb:=zT2 ((b:Int)<(b:Int));have HX:Hid (WyI w1 we.drew wD wi ls3 (pA,pN,pC) (InA (avw (Gf elems) p num low high u i) F aO1 (a+1))):=zH (HB.congr λs=>by rw[HRN.out];exact a0K HFX);go_wp2_with fail;go_roundw
      case rel=>exact⟨a+1,ls3,pA,pN,pC,zO,rfl,by go_num,HX⟩
      simp[intOf];omega
     have hdb:=zT1 ((b:Int)<(rn:Int));obtain⟨fb,fo,fl,aLb,fm,fd,HXF,hfo,hf1,hf2,x0,a5R⟩:=HFD.at_ aWo;obtain⟨rb,ro,rl,rB,rm,rd,HXR,Cf,LV,hr2,y0,aYg⟩:=HRD.at_ a1M;obtain rfl:fl=fx:=zI (HXF.symm.trans HFX);obtain⟨gf,gr,ve⟩:=zK3 (HGF fl (SK HXF)) (JQ rl (SK HXR)) HB.same;have x1:wi.drew.cell? (fb,fo+a)=(aLb,fm,fd):=(ZS (w:=wD) (w':=wi.drew) (ve fb hf1 hf2)).trans x0;have y1:wi.drew.cell? (rb,ro+b)=(rB,rm,rd):=(ZS (w:=wD) (w':=wi.drew) (ve rb (zT hAC LV) hr2)).trans y0;have aWq:ax wi.drew we.drew 3 1 aV fl (aLb,fm,fd):=hfo.bu λq hq=>ve q (hfo.block_lt hq).1 (hfo.block_lt hq).2;have aWr:ax wi.drew aSe.drew 3 1 aV rl (rB,rm,rd):=Cf.bu λq hq=>ve q (zT hAC (Cf.block_lt hq).1) (Cf.block_lt hq).2;obtain⟨w3,vU,S3,su,az⟩:=af wi.drew (Zc #[] 3);have o3:=a0n S3;have f3:=(aWq.keep az).a0U;rw[<-f3.1] at f3;obtain⟨gA,gn,gc,w4,aSc,o4,CY,-⟩:=EF w3 wi.drew [] fl _ 0 0 o3 aLb fm fd _ f3.2 (by rw[gf.1,z24];omega) az.size 58;rw[d6] at o4;have aX:Below wi.drew wi.drew w4:=az.trans (grown_below o3 az.size CY);have r4:=(aWr.keep aX).a0U;rw[<-r4.1] at r4;obtain⟨kA,kn,kc,w5,aSd,a1N,Pg,-⟩:=EF w4 wi.drew fl rl gA gn gc o4 rB rm rd _ r4.2 (by rw[gf.1,gr.1];omega) aX.size 58;have bg:Below wi.drew wi.drew w5:=aX.trans (grown_below o4 aX.size Pg);have hbi:Bw wi w5:=(j9 _ _).drew.seq bg;have BL:kn=(fl++rl).length:=a1N.a0U.1
     have aDg:Hid (Cl 95 #[(pA,pN,pC),(kA,kn,kc)] w5 λe w'=>∃v',e= .returned v'/\SqI w' w1 (ayI (fl++rl) ls3) v'/\aVy (pA,pN,pC) v' w5 w'):=zH (by
      have hl:∀x∈ls3,Gd (i+(un - i)) x:=λx hx=>a4J HG0 HGF JQ ((HB.mem x).1 hx);have h4:=HN4.out;obtain⟨h5,h6,h7⟩:=zK3 (a4K h4 HB.nd hl) bg.size HB.bel.size
      exact aZ5 ls3 (fl++rl) pA pN pC kA kn kc w5 w1 (HB.sq.below hbi) (a1N.a0T h7) zO (by rw[BL,z5,gf.1,gr.1];omega) (λx hx=>by rw[(hl x hx).1];omega) (zT h7 h6))
     have I7:Hid (w3.cell? (fb,fo+a)=(aLb,fm,fd)/\w3.cell? (rb,ro+b)=(rB,rm,rd)):=zH ⟨(az.cell (j8 _ _ x1)).trans x1,(az.cell (j8 _ _ y1)).trans y1⟩;have Hl:Hid (w4.cell? (fb,fo+a)=(aLb,fm,fd)/\w4.cell? (rb,ro+b)=(rB,rm,rd)):=zH ⟨(aX.cell (j8 _ _ x1)).trans x1,(aX.cell (j8 _ _ y1)).trans y1⟩;have G6:Hid (w5.cell? (fb,fo+a)=(aLb,fm,fd)/\w5.cell? (rb,ro+b)=(rB,rm,rd)):=zH ⟨(bg.cell (j8 _ _ x1)).trans x1,(bg.cell (j8 _ _ y1)).trans y1⟩
     have TC:Hid (∀v' w6,aVy (pA,pN,pC) v' w5 w6->w6.cell? (fb,fo+a)=(aLb,fm,fd)/\w6.cell? (rb,ro+b)=(rB,rm,rd)):=zH λv' w6 h=>by
      obtain⟨dV,h5,h6⟩:=zK3 HB.own bg.size HB.size;have h7:wi.drew=wi.heap.size:=rfl;refine⟨(h.kept.cell (p:=(fb,fo+a)) (show fb<w5.heap.size by omega) λe=>?_).trans G6.1,(h.kept.cell (p:=(rb,ro+b)) (show rb<w5.heap.size by omega) λe=>?_).trans G6.2⟩
      ·rcases dV fb e with h8 | h8<;>omega
      rcases dV rb e with h8 | h8<;>omega
     obtain⟨HBI,HR4,HR5⟩:=zJ3 hbi aSc aSd;clear hfo Cf hf1 hf2 LV hr2 x0 y0 ve aWq aWr o3 f3 aSc o4 CY aX r4 aSd a1N Pg bg hbi BL gf gr S3 su az;go_wp2_with fail;have hHeld:Held (λV=>V.cell? (fb,fo+a)=(aLb,fm,fd)/\V.cell? (rb,ro+b)=(rB,rm,rd)) wi.drew:=⟨x1,y1⟩;refine ah.stH hHeld 13 ?_;refine ah.tk 0 hHeld ?_;refine ah.tk 2 hHeld ?_;refine ah.tk 3 hHeld ?_;refine ah.tk 4 hHeld ?_;refine ah.tk 5 hHeld ?_;refine ah.tk 7 hHeld ?_;refine ah.tk 8 hHeld ?_;refine ah.tk 9 hHeld ?_;refine ah.tk 10 hHeld ?_;refine ah.acF 1 (λ_=>I7) ?_;refine ah.on 6 λK hK=>?_;refine wM rfl (.tmp 79) (.tmp 83) 58 rfl (v1:=.slice (some ⟨wi.drew,0,none⟩) 0 0) (v2:=(aLb,fm,fd)) rfl rfl HR4 ?_;refine di hK (λ_=>Hl) ?_;clear hK K;refine ah.on 11 λK hK=>?_;refine wM rfl (.tmp 84) (.tmp 88) 58 rfl (v1:=(gA,gn,gc)) (v2:=(rB,rm,rd)) rfl rfl HR5 ?_;refine di hK (λ_=>G6) ?_;clear hK K;refine ah.on 12 λK hK=>?_;go_simp;refine aDg.mono ?_;rintro e w6 ⟨v6,rfl,aOZ,aO0⟩;obtain⟨zA,zc,hz6⟩:=aOZ.form;obtain⟨zn,hzn⟩:=zF ((ayI (fl++rl) ls3).length);rw[hzn] at hz6;subst hz6;have HZ:Hid (WyI w1 we.drew wD w6 (ayI (fl++rl) ls3) (zA,zn,zc) (InB (avw (Gf elems) p num low high u i) F aO1 a (b+1))):=zH ((HB.add HBI aOZ aO0).congr λs=>(a0E HFX HXR).symm);have hc6:=TC _ _ aO0;clear aOZ aO0 hzn;refine di hK (λ_=>hc6) ?_;clear hK K;refine ah.oe 13 ?_;refine ah.dn ?_;go_wp2_with fail;go_roundw
     case rel=>exact⟨b+1,ayI (fl++rl) ls3,zA,zn,zc,zO,rfl,by go_num,HZ⟩
     simp[intOf];omega
