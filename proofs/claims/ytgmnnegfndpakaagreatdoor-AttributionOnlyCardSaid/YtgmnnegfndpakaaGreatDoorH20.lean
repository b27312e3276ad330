import Derived.Test.YtgmnnegfndpakaaGreatDoorTimB
set_option maxHeartbeats 20000000
set_option maxRecDepth 100000
namespace Go.Proofs.YtgmnnegfndpakaaGreatDoor
open Go.RowKit Go.Proofs.Tryz
variable{w:World}{base bm num i:Nat}{T G:Nat->Prop}{hd:Hd}{pl:List aU}{p x:aJ}{s:dR}{vf vl:Value}{l:List aJ}
theorem amE(w:World)(base:Nat)(rs:List lK)(A0:Option Addr)(n0 c0:Nat)(dV:ax w base 195 14 sH rs (A0,n0,c0))(g c:Nat)(r:lK)(hc:cu w g 0 (sH r))(hlen:rs.length<3000000)(eY:base<=w)(ty:TypeId):
 ∃fA fn fc w',(Builtin.append_ #[167,167] ty #[(A0,n0,c0),(g,0,1,c)]).run prog w= .ok (.slice fA fn fc) w'/\ax w' base 195 14 sH (rs++[r]) (.slice fA fn fc)/\w.grownBy w' (Value.slice A0 n0 c0).ownBlock/\
  ((Value.slice fA fn fc).ownBlock=(Value.slice A0 n0 c0).ownBlock\/(Value.slice fA fn fc).ownBlock=w.heap.size):=by
 obtain⟨ht,i,hi,hz,bY,nP,ry,h0,xZ⟩:=tyP
 have hr:aY w (λ_=>True) 14 sH [r] g 1:=⟨rfl,λ_=>⟨g,0,rfl,trivial,λi x hx=>by
  cases i with
  | zero=>
    obtain rfl:r=x:=(by simpa using hx);simpa using hc
  | succ i=>simp at hx⟩⟩
 have hs:=hr.src Il zD 1 (zR _);rw[show [r].take 1=[r] from rfl] at hs;obtain⟨v',w',bG,r1,r2,r3⟩:=TD (P:=prog) w base 167 ty 195 i _ 14 200 ht hi hz bY nP ry h0 _ _ _ dV _ 1 c _ hs (art [r]) zO xZ eY;have ho:ax w' base 195 14 sH (rs++[r]) v':=(by unfold ax;rw[z5,l6];exact r1);obtain⟨fA,fc,rfl⟩:=ho.form;exact⟨fA,_,fc,w',bG,ho,r2,r3⟩
theorem gV.add{w1:World}{pv:Value}{rs:List lK}(h:gV w base T bm hd pl pv rs){fA:Option Addr}{fn fc:Nat}{lc:rE 12}
 (hl:au w (· <base) (aZ p) lc.1) (ho:ax w1 base 195 14 sH (rs++[⟨lc,num,none,0,0⟩]) (fA,fn,fc)) (hg:w.grownBy w1 pv.ownBlock) (hb:(Value.slice fA fn fc).ownBlock=pv.ownBlock\/(Value.slice fA fn fc).ownBlock=w.heap.size):
 gV (w1.setCell (bm,1) (fA,fn,fc)) base (λk=>T k\/(Value.slice fA fn fc).ownBlock=some k) bm hd (pl++[⟨p,num,[]⟩]) (fA,fn,fc) (rs++[⟨lc,num,none,0,0⟩])/\Kept T w (w1.setCell (bm,1) (fA,fn,fc)):=by
 have jA:=(h.inT bm h.IP).2;have dY:=(h.inT bm h.IP).1;have hpb:pv.ownBlock≠some bm:=λe=>(h.Fv bm e).2 rfl;have h1:w1.heap[bm]?=Zc (Yx hd pv) 169:=(hg.block bm jA (λe=>hpb e.symm)).trans h.blk;obtain⟨w2,mJ⟩:=zF (w1.setCell (bm,1) (fA,fn,fc));have h2:w2.heap[bm]?=Zc (Yx hd (fA,fn,fc)) 169:=(by rw[<-mJ,dM h1];rfl);have far:∀k,k≠bm->w2.heap[k]?=w1.heap[k]?:=λk hk=>(by rw[<-mJ];exact b7 _ _ _ _ hk);have old:∀k,k<w.heap.size->pv.ownBlock≠some k->k≠bm->w2.heap[k]?=w.heap[k]?:=λk hk e1 e2=>(far k e2).trans (hg.block k hk (λe=>e1 e.symm));have bY:w1.heap.size=w2:=(by rw[<-mJ];simp[World.setCell]);have Fh:=aS ho
 have dD:∀k,(Value.slice fA fn fc).ownBlock=some k->k≠bm:=λk hk e=>by
  subst e
  rcases hb with hb | hb
  ·exact hpb (hb.symm.trans hk)
  have e:=hb.symm.trans hk;have:=zI e;omega
 have iO:∀k,k<base->w2.heap[k]?=w.heap[k]?:=λk hk=>old k (by have:=h.le;omega) (λe=>by have:=(h.inT k (h.Fv k e).1).1;omega) zO;rw[mJ];refine⟨⟨h2,ho.bu λk hk=>far k (dD k hk),by rw[z5,z5,h.len];rfl,.inl h.IP,λk hk=>⟨.inr hk,dD k hk⟩,?_,?_,?_,by rw[<-bY];exact zT h.le hg.size⟩,?_⟩
 ·intro i q r hq hr
  rcases i8 i pl.length with hi | hi
  ·rw[z20 hi] at hq;rw[z20 (by rw[h.len];exact hi)] at hr;obtain⟨a1,a2,a3,a4⟩:=h.row i q r hq hr;refine⟨a1,a2.keep λk hk=>⟨hk,iO k hk⟩,a3.bu λk hk=>old k (h.inT k (a4 k hk).1).2 (a4 k hk).2.2 (a4 k hk).2.1,λk hk=>⟨.inl (a4 k hk).1,(a4 k hk).2.1,λe=>?_⟩⟩
   rcases hb with hb | hb
   ·exact(a4 k hk).2.2 (hb.symm.trans e)
   have e':=hb.symm.trans e;have:=zI e';have:=(h.inT k (a4 k hk).1).2;omega
  rw[z21 hi] at hq;rw[z21 (by rw[h.len];exact hi),h.len] at hr
  cases hj:i - pl.length with
  | zero=>
    rw[hj] at hq hr;obtain rfl:(⟨p,num,[]⟩:aU)=q:=(by simpa using hq);obtain rfl:(⟨lc,num,none,0,0⟩:lK)=r:=(by simpa using hr);exact⟨rfl,hl.keep λk hk=>⟨hk,iO k hk⟩,ax.nil _ _ _ _ _,λk hk=>(by cases hk)⟩
  | succ j=>rw[hj] at hq;simp at hq
 ·intro i j r r' k Fz hr Aq hk
  have new:∀(i:Nat) (r:lK),(rs++[⟨lc,num,none,0,0⟩])[i]?=r->r.fv.ownBlock=k->rs[i]?=r:=λi r hr hk=>by
   rcases i8 i rs.length with hi | hi
   ·rwa [z20 hi] at hr
   rw[z21 hi] at hr
   cases hj:i - rs.length with
   | zero=>
     rw[hj] at hr;obtain rfl:(⟨lc,num,none,0,0⟩:lK)=r:=(by simpa using hr);cases hk
   | succ j=>rw[hj] at hr;simp at hr
  intro fM;exact h.ZA i j r r' k Fz (new i r hr hk) (new j r' Aq fM) hk fM
 ·rintro k (hk | hk)
  ·exact⟨(h.inT k hk).1,by rw[<-bY];exact d4 (h.inT k hk).2 hg.size⟩
  have:=Fh k hk.symm;exact⟨this.1,by rw[<-bY];exact this.2⟩
 refine⟨?_,?_,?_,by rw[<-bY];exact hg.size,λk hk hT=>old k hk (λe=>hT (h.Fv k e).1) (λe=>hT (e ▸ h.IP))⟩
 ·rw[<-mJ];exact hg.os
 ·rw[<-mJ];exact hg.tape
 rw[<-mJ];exact hg.output
theorem iT.swap(h:iT w base G s vf vl)(b:Bool):iT w base G ⟨s.last,s.first,b⟩ vl vf:=⟨h.l,h.f,h.gl,h.gf,λk h1 h2=>h.ne k h2 h1⟩
theorem iT.any(h:iT w base G s vf vl)(b:Bool):iT w base G ⟨s.first,s.last,b⟩ vf vl:=⟨h.f,h.l,h.gf,h.gl,h.ne⟩
def TJ(w wb:World)(base:Nat)(Gx:Nat->Prop)(l1 l2:List Nat)(xf xl vf vl:Value):Prop:=
 iT wb base (λk=>Gx k\/w<=k) ⟨l1,l2,false⟩ vf vl/\Kept (λk=>xf.ownBlock=some k\/xl.ownBlock=some k) w wb
theorem aco(w:World)(base:Nat)(Gx Gy:Nat->Prop)(x y:dR)(A1 A2 B1 B2:Option Addr)(n1 c1 n2 c2 m1 d1 m2 d2:Nat)(hx:iT w base Gx x (A1,n1,c1) (A2,n2,c2))(hy:iT w base Gy y (B1,m1,d1) (B2,m2,d2))
 (hd:∀k,Gx k->¬Gy k) (hl:x.first.length<=1000/\x.last.length<=1000/\y.first.length<=1000/\y.last.length<=1000) (eY:base<=w) (ty ty':TypeId):
 ∃fA fn fc wa gA gn gc wb,(Builtin.append_ #[58,58] ty #[(A1,n1,c1),(B1,m1,d1)]).run prog w= .ok (.slice fA fn fc) wa/\(Builtin.append_ #[58,58] ty' #[(A2,n2,c2),(B2,m2,d2)]).run prog wa= .ok (.slice gA gn gc) wb/\
  TJ w wb base Gx (x.first++y.first) (x.last++y.last) (A1,n1,c1) (A2,n2,c2) (.slice fA fn fc) (.slice gA gn gc):=by
 obtain⟨ox,ol,LV,hr2⟩:=zK4 (aS hx.f) (aS hx.l) (hy.acg (wr:=w) (λ_ _ _=>rfl)) (hy.ahn (wr:=w) (λ_ _ _=>rfl));obtain⟨fA,fn,fc,wa,NR,uz,g1,b1⟩:=EF w base x.first y.first A1 n1 c1 hx.f B1 m1 d1 _ LV zO eY ty;have s1:=g1.size;have FD:ax wa base 3 1 aV x.last (A2,n2,c2):=hx.l.bu λk hk=>g1.block k (ol k hk.symm).2 (λe=>hx.ne k e.symm hk);have aho:aY wa (λ_=>True) 1 aV y.last B2 m2:=hr2.keep λk hk=>⟨trivial,g1.block k hk.2 (λe=>hd k (hx.gf k e.symm) hk.1)⟩;obtain⟨gA,gn,gc,wb,Xb,rO,g2,b2⟩:=EF wa base x.last y.last A2 n2 c2 FD B2 m2 d2 _ aho zO zO ty';have o1:=aS uz;have s2:=g2.size;refine⟨fA,fn,fc,wa,gA,gn,gc,wb,NR,Xb,⟨?_,rO,?_,?_,?_⟩,?_⟩
 ·refine uz.bu λk hk=>g2.block k (o1 k hk.symm).2 (λe=>?_)
  rcases b1 with b1 | b1
  ·exact hx.ne k (b1.symm.trans hk) e.symm
  have e1:=b1.symm.trans hk;have:=zI e1;have:=(ol k e).2;omega
 ·intro k hk
  rcases b1 with b1 | b1
  ·exact .inl (hx.gf k (b1.symm.trans hk))
  have e1:=b1.symm.trans hk;have:=zI e1;right;omega
 ·intro k hk
  rcases b2 with b2 | b2
  ·exact .inl (hx.gl k (b2.symm.trans hk))
  have e1:=b2.symm.trans hk;have:=zI e1;right;omega
 ·intro k hk dm;have D5:=(o1 k hk.symm).2
  rcases b2 with b2 | b2
  ·have e2:=b2.symm.trans dm
   rcases b1 with b1 | b1
   ·exact hx.ne k (b1.symm.trans hk) e2
   have e1:=b1.symm.trans hk;have:=zI e1;have:=(ol k e2.symm).2;omega
  have e2:=b2.symm.trans dm;have:=zI e2;omega
 exact⟨g2.os.trans g1.os,g2.tape.trans g1.tape,g2.output.trans g1.output,zT s1 s2,λk hk hn=>(g2.block k zO (λe=>hn (.inr e.symm))).trans (g1.block k hk (λe=>hn (.inl e.symm)))⟩
theorem ary(w:World)(base:Nat)(Gx Gy:Nat->Prop)(x y:dR)(A1 A2 B1 B2:Option Addr)(n1 c1 n2 c2 m1 d1 m2 d2:Nat)(hx:iT w base Gx x (A1,n1,c1) (A2,n2,c2))(hy:iT w base Gy y (B1,m1,d1) (B2,m2,d2))
 (hd:∀k,Gx k->¬Gy k) (hl:x.first.length<=1000/\x.last.length<=1000/\y.first.length<=1000/\y.last.length<=1000) (eY:base<=w) (ty ty':TypeId):
 (∃fA fn fc wa gA gn gc wb,(Builtin.append_ #[58,58] ty #[(A1,n1,c1),(B1,m1,d1)]).run prog w= .ok (.slice fA fn fc) wa/\(Builtin.append_ #[58,58] ty' #[(A2,n2,c2),(B2,m2,d2)]).run prog wa= .ok (.slice gA gn gc) wb/\
   TJ w wb base Gx (x.first++y.first) (x.last++y.last) (A1,n1,c1) (A2,n2,c2) (.slice fA fn fc) (.slice gA gn gc))/\
 (∃gA gn gc wa fA fn fc wb,(Builtin.append_ #[58,58] ty' #[(A2,n2,c2),(B2,m2,d2)]).run prog w= .ok (.slice gA gn gc) wa/\(Builtin.append_ #[58,58] ty #[(A1,n1,c1),(B1,m1,d1)]).run prog wa= .ok (.slice fA fn fc) wb/\
   TJ w wb base Gx (x.first++y.first) (x.last++y.last) (A1,n1,c1) (A2,n2,c2) (.slice fA fn fc) (.slice gA gn gc)):=by
 refine⟨aco w base Gx Gy x y _ _ _ _ _ _ _ _ _ _ _ _ hx hy hd hl eY ty ty',?_⟩;obtain⟨gA,gn,gc,wa,fA,fn,fc,wb,h1,h2,hS,hk⟩:=aco w base Gx Gy _ _ _ _ _ _ _ _ _ _ _ _ _ _ (hx.swap false) (hy.swap false) hd ⟨hl.2.1,hl.1,hl.2.2.2,hl.2.2.1⟩ eY ty' ty;exact⟨gA,gn,gc,wa,fA,fn,fc,wb,h1,h2,hS.swap false,fE hk λk h=>h.symm⟩
theorem sQ{g:Nat}{n:Nat}(h:w.heap[g]?=Zc #[n] 3)(hb:base<=g):ax w base 3 1 aV [n] (g,0,1,1):=
 ⟨rfl,.inr ⟨g,1,_,rfl,hb,h,zR _,by unfold maxLen;omega,rfl,rfl⟩⟩
structure NY (pl:List aU) (sq:Bool) (args:List aJ) (tot lim:Nat) (R:List aU×dR) (i num:Nat) (r:List aU×dR):Prop where
 eq:pI sq (args.drop i) num r.1 r.2=R
 made:∃L,Made pl.length pl r L
 bd:∃n,Bd pl.length (208000+n) n r/\n+kF (args.drop i)<=tot
 num:num+dZ (args.drop i)<=lim
theorem Rf(h:l[i]?=p):kF (l.drop i)=lJ p+kF (l.drop (i+1)):=by
 obtain⟨hi,rfl⟩:=z4.1 h;rw[nZ hi,kF]
theorem NY.step{sq:Bool}{args:List aJ}{tot lim:Nat}{R r:List aU×dR}(h:NY pl sq args tot lim R i num r)(hx:args[i]?=x)(hg:kR x=true)(hn:dh x<=40)(ht:tot<=200):
 NY pl sq args tot lim R (i+1) (num+dh x) (if sq then (dB (fV x num r.1).1 r.2 (fV x num r.1).2,fG r.2 (fV x num r.1).2) else ((fV x num r.1).1,⟨r.2.first++(fV x num r.1).2.first,r.2.last++(fV x num r.1).2.last,r.2.empty||(fV x num r.1).2.empty⟩)):=by
 obtain⟨L,hm⟩:=h.made;obtain⟨n,hb,hl⟩:=h.bd;rw[Rf hx] at hl;have lQ:=h.num;rw[Hu hx] at lQ;have hy:=xI hg hn num r.1;have nP:=Ez hg hn zO num r.1;have heq:=h.eq;obtain⟨hi,rfl⟩:=z4.1 hx;rw[nZ hi,pI] at heq
 cases sq with
 | true=>
   simp only[if_true] at heq ⊢;exact⟨heq,⟨_,hm.cat hy⟩,⟨n+lJ args[i],(Bd.cat hm hy hb nP).up zO,zO⟩,zO⟩
 | false=>
   simp only[b6,if_false] at heq ⊢;exact⟨heq,⟨_,hm.or hy⟩,⟨n+lJ args[i],(Bd.or hm hy hb nP).up zO,zO⟩,zO⟩
theorem qL.app{w3 wr w6 wb:World}{t7:Nat}{T' T2:Nat->Prop}{r r2:List aU×dR}{JV:Value}{JW:List lK}{A1 A2 F1 F2:Option Addr}{n1 c1 n2 c2 m1 d1 m2 d2:Nat}{Gx:Nat->Prop}
 (h1:∀k,T k->T' k) (h2:∀k,T' k->T k\/w3.heap.size<=k) (hk:Kept (λk=>T k\/k=t7) w3 wr) (ht7:t7<w3) (ZY:¬T t7) (eP:base<=t7)
 (a1:∀k,T' k->T2 k) (a2:∀k,T2 k->T' k\/wr.heap.size<=k) (ak:Kept T' wr w6) (hM:gV w6 base T2 bm hd r2.1 JV JW)
 (hx:iT w6 base Gx r.2 (A1,n1,c1) (A2,n2,c2)) (hG:∀k,Gx k->w3.heap.size<=k/\¬T2 k)
 (hp:TJ w6.drew wb base Gx r2.2.first r2.2.last (A1,n1,c1) (A2,n2,c2) (F1,m1,d1) (F2,m2,d2)) {u0 u1 u2:Value} (hc:wb.heap[t7]?=Zc #[u0,u1,u2] 171):
 qL w3 base bm t7 T hd r2 (((wb.setCell t7 (F1,m1,d1)).setCell (t7,1) (F2,m2,d2)).setCell (t7,2) r2.2.empty):=by
 obtain⟨hS,yw⟩:=hp;have s1:=hk.size;have s2:=ak.size;have s3:w6.heap.size<=wb:=yw.size
 have own:∀k,((Value.slice A1 n1 c1).ownBlock=some k\/(Value.slice A2 n2 c2).ownBlock=some k)->w3.heap.size<=k/\¬T2 k:=λk h=>by
  rcases h with h | h
  ·exact hG k (hx.gf k h)
  exact hG k (hx.gl k h)
 have fB:∀k,T2 k->T k\/w3.heap.size<=k:=λk bW=>by
  rcases a2 k bW with h | h
  ·exact h2 k h
  right;omega
 have qY:¬T2 t7:=λh=>by
  rcases fB t7 h with h | h
  ·exact ZY h
  omega
 have amK:Kept (λk=>(Value.slice A1 n1 c1).ownBlock=some k\/(Value.slice A2 n2 c2).ownBlock=some k) w6 wb:=⟨yw.os,yw.tape,yw.output,yw.size,yw.block⟩;refine⟨T2,JV,JW,F1,m1,d1,F2,m2,d2,hM.keep (by simp[World.setCell];exact s3) λk bW=>?_,λk h=>a1 k (h1 k h),fB,?_,yT hc,?_⟩
 ·have hkt:k≠t7:=λe=>by
   subst e
   rcases bW with h | h
   ·exact qY h
   omega
  rw[kG hkt];refine amK.block k ?_ λe=>?_
  ·rcases bW with h | h
   ·exact(hM.inT k h).2
   have:=hM.le;omega
  have:=own k e
  rcases bW with h | h
  ·exact this.2 h
  omega
 ·have dm:Kept (λk=>T k\/k=t7) w3 wb:=(hk.up ak (λk h=>by
   rcases h2 k h with h | h
   ·exact .inl (.inl h)
   exact .inr h)).up amK (λk h=>.inr (own k h).1)
  exact((dm.setCell (p:=t7) (.inl (.inr rfl)) _).setCell (p:=⟨t7,1,none⟩) (.inl (.inr rfl)) _).setCell (p:=⟨t7,2,none⟩) (.inl (.inr rfl)) _
 have h3:=hS.keep (w':=((wb.setCell ⟨t7,0,none⟩ (.slice F1 m1 d1)).setCell ⟨t7,1,none⟩ (.slice F2 m2 d2)).setCell ⟨t7,2,none⟩ (.bool r2.2.empty)) (G':=λk=>w3<=k/\¬T2 k) λk aN h=>by
  have bW:w3<=k/\¬T2 k:=by
   rcases h with h | h
   ·exact hG k h
   have h':w6<=k:=h;exact⟨zO,λe=>by have:=(hM.inT k e).2;omega⟩
  exact⟨bW,kG zO⟩
 exact⟨h3.f,h3.l,h3.gf,h3.gl,h3.ne⟩
theorem Xi{a b:Nat}(h:a+b<1000000000):IntKind.i64.wrap ((a:Int)+(b:Int))=(a:Int)+(b:Int):=by rw[IntKind.wrap_i64];omega
theorem Rh(h:oz l=true)(hx:x∈l):kR x=true:=by
 induction l with
 | nil=>simp at hx
 | cons y l ih=>
   obtain⟨h1,h2⟩:=aap h
   rcases TT.1 hx with rfl | hx
   ·exact h1
   exact ih h2 hx
theorem Ri(hx:x∈l):dh x<=dZ l:=by
 induction l with
 | nil=>simp at hx
 | cons y l ih=>
   rw[dZ]
   rcases TT.1 hx with rfl | hx
   ·omega
   have:=ih hx;omega
theorem amL(p:aJ)(Md:p.kind=3)(zV:oz p.args=true)(hn:dh p<=40)(hc:ja p<=200)(ht:∀x∈p.args,Mc x):QW p:=by
 intro num cs w base bm T hd pl pv rs hM hr hF hlen lQ;have hle:=hM.le;have Dc:dh p=1+dZ p.args:=(by obtain⟨k',nI,mx',uo,c',pr',args'⟩:=p;rw[dh];rfl);have Rj:ja p=kF p.args:=(by unfold ja;rw[Md];simp[fD]);obtain⟨tot,Vu⟩:=zF (ja p);rw[Vu] at hlen hc Rj;have aBy:=zH Vu;clear Vu;obtain⟨args,wF⟩:=zF p.args
 have hOP:kL p num pl=pI true args (num+1) pl ⟨[],[],true⟩:=by
  rw[<-wF];obtain⟨k',nI,mx',uo,c',pr',args'⟩:=p;have e:k'=3:=Md;subst e;rw[kL,j5 zD];rfl
 obtain⟨R,hR⟩:=zF (kL p num pl);rw[hR] at hOP ⊢;obtain⟨k,mn,mx,el,ck,ns,nl,sp,A1,n1,c1,A2,n2,c2,pr,A,n,c,rfl,hk,-,-,-,-,-,JC,aI⟩:=aW hr;rw[Md] at hk;subst hk;rw[wF] at aI zV ht Rj Dc;have Pn:n=args.length:=(by have:=aI.1;rwa [z8] at this);obtain⟨w1,bI,S1,S2,nC,ai⟩:=zP2 w 3 mn mx el ck ns nl sp A1 n1 c1 A2 n2 c2 pr A n c (Zc #[(),(),false] 171);have e1:w1=w.heap.size+2:=(by rw[<-bI];simp)
 have HC:Hid (Rt 114 #[.agg (o5 3 mn mx el ck ns nl sp A1 n1 c1 A2 n2 c2 pr A n c)] w1 false):=zH (by
  have h:=ND p _ w1 _ (hr.below (ai.mono hle))
  rwa [Md] at h)
 have q0:=aj S1;have Po:Hid (NY pl true args tot (num+dh p) R 0 (num+1) (pl,⟨[],[],true⟩)):=zH ⟨hOP.symm,⟨_,Made.nil pl⟩,⟨0,(Bd.nil pl true).up zO,by rw[List.drop_zero,<-Rj];omega⟩,by rw[List.drop_zero,Dc];omega⟩;obtain⟨aQ,gY,HM,HF,lM,HNA,HGL,HT⟩:=zJ8 S1 S2 hM hF aI Pn zV ht;obtain⟨HNP,Xe⟩:=zJ2 Dc Rj;clear S1 S2 hM hr hF hOP hR aI Pn zV ht Dc Rj wF;go_enter func167,ntmps167;go_wp2_with fail;refine HC.mono ?_;rintro e w2 ⟨rfl,ag⟩;obtain⟨w3,vU,S3,su,az⟩:=af w2 (Zc #[(),(),true] 171);have e3:w3.heap.size=w2+1:=(by rw[<-vU];simp);have jX:=ag.seq az;have uS:=ag.size;clear q0;have q0:=aj (ae aQ ag);obtain⟨z0,z1,z2,z3,z4,z5,z6,z7,z8,z9,nZ,og⟩:=aj (ae aQ jX);have vC:=zH S3;clear S3;have I4:=zH (HM.below (ai.seq jX));have hwr:IntKind.i64.wrap ((num:Int)+1)=(num:Int)+1:=zS3;have aBz:wrap64 ((num:Int)+1)=((num+1:Nat):Int):=(by rw[CU zO zO];push_cast;rfl);have acC:=zH lQ;have axQ:num<=999999:=Nat.le_of_lt_succ (Qe (Nat.le_add_right _ _) lQ);clear lQ;go_wp2_with fail
 go_loopw [2,49] (λs2 si wr=>∃(i m:Nat) (r:List aU×dR),i<=n/\si= i/\s2= m/\Hid (NY pl true args tot (num+dh p) R i m r)/\qL w3 base bm w2 T hd r wr)
  (λ_ si _=>n - (intOf si).toNat)
 case atStart=>exact⟨0,num+1,_,zO,rfl,by first | rfl | (simp[hwr];done) | go_num,Po,T,pv,rs,none,0,0,none,0,0,I4,λ_ h=>h,λ_ h=>.inl h,Kept.refl _ _,vC,ax.nil _ _ _ _ _,ax.nil _ _ _ _ _,λj hj=>(by cases hj),λj hj=>(by cases hj),λj hj=>(by cases hj)⟩
 clear q0 z0 z1 z2 z3 z4 z5 z6 z7 z8 z9 nZ og;obtain⟨i,m,r,hi,rfl,rfl,HI,T',pv',rs',B1,m1,d1,B2,m2,d2,tC,vN,fB,lH,h7,hS⟩:=hrel;have BP:∀q,T q->q<w.heap.size:=λq hq=>(HM.inT q hq).2
 have yZ:∀q,w.heap.size<=q->q<w3.heap.size->¬T' q:=λq h1 h2 h=>by
  rcases fB _ h with h | h
  ·have:=BP _ h;omega
  omega
 have s3:w3.heap.size<=wr:=lH.size;have uh:wr.heap[w.heap.size]?=Zc #[(3:Int),mn,mx,el,ck,ns,nl,sp,(A1,n1,c1),(A2,n2,c2),pr,(A,n,c)] 29:=(lH.block _ zO (by rintro (h | h);have:=BP _ h;omega;omega)).trans (ae aQ jX);have zW:wr.heap[w.heap.size+1]?=Zc #[(),(),false] 171:=(lH.block _ zO (by rintro (h | h);have:=BP _ h;omega;omega)).trans (ae gY jX);obtain⟨Dh,HR6⟩:=zJ2 uh zW;obtain⟨be,jm⟩:=zF r.2.empty;rw[jm] at h7;obtain⟨s0,s1,s2⟩:=dJ h7;have q0:=aj uh;by_cases aN:i<n
 ·have jV:=zT1 (i<n)
  have kK:bM wr (· <base) 12 (args.map aZ) A n:=lM.keep λb hb=>⟨hb,by
   rw[lH.block b zO (by rintro (h | h);have:=(HM.inT b h).1;omega;omega),(ai.seq jX).block b zO]⟩
  obtain⟨b,off,px,v0,v1,v2,v3,v4,v5,v6,v7,v8,v9,v10,v11,HX,eG,z0,z1,z2,z3,z4,z5,z6,z7,z8,z9,nZ,og,dO⟩:=kK.DW aN c;obtain⟨kx,gU,gz,gZ,ig,ik,iq,iw,iy,iC,iD,iE,iF,iG,iH,Ax,nx,cx,fJ,-⟩:=aW eG;simp only[i7,and_true] at fJ;obtain⟨rfl,rfl,rfl,rfl,rfl,rfl,rfl,rfl,rfl,rfl,rfl,rfl⟩:=fJ;have jb:px∈args:=SK HX;have Ec:kR px=true:=Rh HGL jb;have xw:dh px<=dZ args:=Ri jb;have yC:lJ px<=kF args:=IM jb;have Dk:dh px<=40:=(by have:=HNP.out;omega);have KY:=HI.step HX Ec Dk hc;rw[j6 rfl] at KY;have HI2:=zH KY;clear KY;obtain⟨L,NZ⟩:=HI.made;obtain⟨nb,bP,jA⟩:=HI.bd;have N7:=HI.num;rw[Hu HX] at N7;rw[Rf HX] at jA;obtain⟨dq,Ja⟩:=zF (dh px);rw[Ja] at N7 HI2 Dk;have uU:tu r.1:=HF.made NZ bP zO;have UC:r.1.length+lJ px<=1000:=(by rw[bP.len];omega);obtain⟨wa,BK,SA,Vg,bJ⟩:=zP1 wr kx gU gz gZ ig ik iq iw iy iC iD iE iF iG iH Ax nx cx;have ea:wa.heap.size=wr+1:=(by rw[<-BK];simp);have x0:=aj SA;have hMa:gV wa base T' bm hd r.1 pv' rs':=tC.below bJ;have hRa:au wa (· <base) (aZ px) [kx,gU,gz,gZ,ig,ik,iq,iw,(iy,iC,iD),(iE,iF,iG),iH,(Ax,nx,cx)]:=eG.below (bJ.mono (by have:=tC.le;omega));have UE:m+dh px<1000000:=(by rw[Ja];exact Qe (zT (Nat.add_le_add_left (Nat.le_add_right dq _) m) N7) acC);have acD:m+dq<1000000000:=d4 (by rw[<-Ja];exact UE) zD;obtain⟨tm,JZ⟩:=zF (fV px m r.1)
  have HCT:Hid (Cl 124 #[(bm,0),.agg (o5 kx gU gz gZ ig ik iq iw iy iC iD iE iF iG iH Ax nx cx),m] wa (wP wa base bm T' hd tm)):=zH (by
   have h:=HT px jb m _ wa base bm T' hd r.1 pv' rs' hMa hRa uU UC UE
   rw[JZ] at h;exact h)
  have hyt:=xI Ec (by rw[Ja];exact Dk) m r.1;have xZ:=Ez Ec (by rw[Ja];exact Dk) (by have:=Xe.out;omega) m r.1;rw[JZ] at hyt xZ HI2;have hTo:∀q,T' q->base<=q/\q<wr.heap.size:=tC.inT;obtain⟨HTO,HX0,Pq,HYT,Q8,rM,gW,fC⟩:=zJ8 hTo NZ bP hyt xZ lH vN fB;obtain⟨HS,H7,pO,NV,Df,aBA,HDQ,Ph⟩:=zJ8 hS h7 jm uU SA JZ Ja eG;have Ah:=zH yZ;clear hTo NZ bP hyt xZ lH vN fB hS h7 jm uU SA JZ Ja eG hMa hRa tC uh zW jb Ec yC kK yZ;go_wp2_with fail;refine HCT.mono ?_;rintro e w4 ⟨T2,JV,JW,vf,vl,rfl,hM2,CB,BJ,uA,Aa⟩;obtain⟨D9,I9⟩:=zF tm.2.empty;rw[I9];obtain⟨g1,lV⟩:=zF tm.2.first.length;obtain⟨g2,qo⟩:=zF tm.2.last.length;obtain⟨E1,f1,rfl⟩:=Aa.f.form;obtain⟨E2,f2,rfl⟩:=Aa.l.form;rw[lV,qo] at Aa ⊢;have s4:wa.heap.size<=w4:=uA.size;obtain⟨w5,pq,S5,IY,bg⟩:=af w4 (Zc #[(E1,g1,f1),(E2,g2,f2),D9] 171);have e5:w5.heap.size=w4+1:=(by rw[<-pq];simp);have Q5:∀q,T2 q->q<w4.heap.size:=λq h=>(hM2.inT q h).2;have lq:Kept T' wr w5:=((Qh bJ).up uA (λ_ h=>.inl h)).up (Qh bg (M:=λ_=>False)) (λ_ h=>h.elim);have hx5:w5.heap[wr.heap.size]?=Zc #[kx,gU,gz,gZ,ig,ik,iq,iw,(iy,iC,iD),(iE,iF,iG),iH,(Ax,nx,cx)] 29:=(bg.block _ zO).trans ((uA.block _ zO (λh=>by have:=(HTO _ h).2;omega)).trans Df);clear x0;have x0:=aj hx5
  have HCS:Hid (Rt 211 #[.agg (o5 kx gU gz gZ ig ik iq iw iy iC iD iE iF iG iH Ax nx cx)] w5 dq):=zH (by
   have h:=size_any px _ w5 _ (Ph.keep (F':=λ_=>True) λb hb=>⟨trivial,lq.block b (by have:=HM.le;omega) (λh=>by have:=(HTO _ h).1;omega)⟩) (by rw[HDQ.out];exact Qe Dk zD)
   rw[HDQ.out] at h;exact h)
  have hwm:wrap64 ((m:Int)+(dq:Int))=((m+dq:Nat):Int):=QV acD;have hwi:IntKind.i64.wrap ((m:Int)+(dq:Int))=(m:Int)+(dq:Int):=Xi acD;obtain⟨Rk,vW,uy,UD,qZ,Ld,aBB,Vt⟩:=zJ8 lq S5 hM2 CB BJ Aa Q5 I9;clear lq S5 hM2 CB BJ uA Aa Q5 I9 hx5 lV qo;go_wp2_with fail;refine HCS.mono ?_;rintro e w6 ⟨rfl,dQ⟩;have s6:w5.heap.size<=w6:=dQ.size;have uX:Kept T' wr w6:=Rk.up (Qh dQ (M:=λ_=>False)) (λ_ h=>h.elim);have h12:w6.heap[w.heap.size]?=Zc #[(3:Int),mn,mx,el,ck,ns,nl,sp,(A1,n1,c1),(A2,n2,c2),pr,(A,n,c)] 29:=(uX.block _ zO (Ah _ zO zO)).trans Dh;have Le:w6.heap[w2.heap.size]?=Zc #[(B1,m1,d1),(B2,m2,d2),be] 171:=(uX.block _ zO (Ah _ zO zO)).trans H7;have AP:=ae vW dQ;clear x0 q0 s0 s1 s2;have q0:=aj h12;obtain⟨s0,s1,s2⟩:=dJ Le;have y0:=dJ AP;have Z9:gV w6 base T2 bm hd tm.1 JV JW:=uy.below (bg.seq dQ)
  have GX:iT w6 base (λk=>w3<=k/\¬T2 k/\k<wr) r.2 (B1,m1,d1) (B2,m2,d2):=HS.keep λk aN hG=>⟨⟨hG.1,λh=>by
   rcases qZ _ h with h | h
   ·exact hG.2 h
   omega,aN⟩,uX.block k aN hG.2⟩
  have GY:iT w6 base (λk=>wa<=k/\¬T2 k/\k<w4) tm.2 (E1,g1,f1) (E2,g2,f2):=Ld.keep λk aN hG=>⟨⟨hG.1,hG.2,aN⟩,(bg.seq dQ).block k aN⟩;have ahu:r.2.first.length<=1000/\r.2.last.length<=1000/\tm.2.first.length<=1000/\tm.2.last.length<=1000:=⟨by have:=Pq.fl;omega,by have:=Pq.ll;omega,by have:=Q8.fl;omega,by have:=Q8.ll;omega⟩;have ahv:¬T w2.heap.size:=λh=>(by have:=BP _ h;omega)
  have xu:=BO base bm T2 hd tm.1 JW r.2 tm.2 _ _ _ _ JV w6 _ _ Z9 GX GY (λk h=>h.2.1) (λk h=>h.2.1)
   (λi hi=>by have:=(HX0.ok.fF.last i hi).2;have:=HYT.base;omega) ahu (NV.made HYT Q8 zO)
  rw[pO.out,Vt.out] at xu;obtain⟨Xf,HK6,H76⟩:=zJ3 xu uX Le;clear xu GX GY Z9 uX Le h12 AP;go_wp2_with fail;refine Xf.mono ?_;rintro e w7 ⟨T3,rs3,vf,vl,rfl,Z7,b1',b2',bk',hS7⟩;obtain⟨G1,g1',rfl⟩:=hS7.f.form;obtain⟨G2,g2',rfl⟩:=hS7.l.form
  have NW:w7.heap[w2.heap.size]?=Zc #[(B1,m1,d1),(B2,m2,d2),be] 171:=(bk'.block _ zO (λh=>by
   rcases qZ _ h with h | h
   ·exact Ah _ zO zO h
   omega)).trans H76
  have t0:=zF3 w7 w2.heap.size NW;obtain⟨l0,l1,l2⟩:=dJ NW;obtain⟨Q9,nK,DU,Z5,G5,H77⟩:=zJ6 Z7 b1' b2' bk' hS7 NW;clear Z7 b1' b2' bk' hS7 NW;go_wp2_with fail;go_roundw
  case rel=>
   refine⟨i+1,m+dq,(dB tm.1 r.2 tm.2,fG r.2 tm.2),zO,by go_num,by first | rfl | (simp[hwm];done) | go_num,HI2,?_⟩
   have bZ:=qL.step (r:=r) (r2:=(dB tm.1 r.2 tm.2,fG r.2 tm.2)) (t7:=w2) gW fC rM su ahv zO UD (λk h=>by
    rcases qZ k h with h | h
    ·exact .inl h
    right;omega) HK6 nK DU Z5 Q9 H77 G5
   rw[show (dB tm.1 r.2 tm.2,fG r.2 tm.2).2.empty=(be&&D9) from by rw[<-pO.out,<-Vt.out];rfl] at bZ;exact bZ
  simp[intOf];omega
 obtain rfl:i=n:=zO;have jV:=zT2 (i<i)
 have hRr:r=R:=by
  have h:=HI.eq;rw[HNA.out,List.drop_length,pI] at h;exact h
 subst hRr;obtain⟨t0,y0,rM,gW,fC,HS,pO,Pv⟩:=zK8 (zF3 wr (w.heap.size+1) zW) (dJ zW) (zH lH) (zH vN) (zH fB) (zH hS) (zH jm) (zH tC);have Ah:=zH yZ;clear lH vN fB hS jm tC zW h7 uh yZ;go_wp2_with fail;have Q7:=yT (v0:=(B1,m1,d1)) (v1:=(B2,m2,d2)) (v2:=be) HR6;obtain⟨l0,l1,l2⟩:=dJ Q7;refine Qg (v:=.agg #[(B1,m1,d1),(B2,m2,d2),be]) (by simp[results,results167,go_sem,l0,l1,l2]) rfl ?_
 exact EG (B:=w3) gW (λq h=>by
  rcases fC _ h with h | h
  ·exact .inl h
  right;omega) zO hle (Ah _ zO zO) ((Qh (ai.seq jX)).up rM (by rintro q (h | h);exact .inl h;right;omega)) Pv HS zO zO pO rfl
theorem aj7(p:aJ)(Md:fD p.kind=true):QW p:=by
 intro num cs w base bm T hd pl pv rs hM hr hF hlen lQ;have hle:=hM.le;have GI:1<=ja p:=(by unfold ja;rw[j6 Md];omega);have AU:rs.length=pl.length:=hM.len;obtain⟨P0,pU,oC⟩:=hM.own.form;obtain⟨pn,Py⟩:=zF rs.length;rw[Py] at oC;subst oC;have Xk:=zH Py;clear Py;have hr0:=hr;obtain⟨k,mn,mx,el,ck,ns,nl,sp,A1,n1,c1,A2,n2,c2,pr,A,n,c,rfl,hk,-⟩:=aW hr;obtain⟨w1,bI,S1,S2,nC,ai⟩:=zP2 w k mn mx el ck ns nl sp A1 n1 c1 A2 n2 c2 pr A n c (Zc #[(),(),false] 171);have e1:w1=w.heap.size+2:=(by rw[<-bI];simp)
 have HC:Hid (Rt 114 #[.agg (o5 k mn mx el ck ns nl sp A1 n1 c1 A2 n2 c2 pr A n c)] w1 true):=zH (by
  have h:=ND p _ w1 _ (hr.below (ai.mono hle))
  rwa [Md] at h)
 obtain⟨q0,q1,q2,q3,q4,q5,q6,q7,q8,q9,aF,aG⟩:=aj S1;obtain⟨aQ,gY,HM,HR,BR⟩:=zJ5 S1 S2 hM hr AU;clear S1 S2 hM hr hF hk AU hr0;go_enter func167,ntmps167;go_wp2_with fail;refine HC.mono ?_;rintro e w2 ⟨rfl,ag⟩;clear q0 q1 q2 q3 q4 q5 q6 q7 q8 q9 aF aG;obtain⟨S1',S2',s2⟩:=zK3 (ae aQ ag) (ae gY ag) ag.size;obtain⟨q0,q1,q2,q3,q4,q5,q6,q7,q8,q9,aF,aG⟩:=aj S1';have uy:=zH (HM.below (ai.seq ag));have yP:=uy.blk;have m1:w2.cell? (bm,1)=(P0,pn,pU):=(by rw[Ys w2 bm _ _ _ _ yP];rfl);obtain⟨Lh,asV,Ld,HBM⟩:=zK4 (zH (ai.seq ag)) (zH S1') (zH S2') (zH yP);have jA:bm<w:=(HM.inT bm HM.IP).2;have EY:Hid (w2.drew.cell? (bm,1)=(P0,pn,pU)/\w2.drew.cell? w=k/\w2.drew.cell? (w,1)=mn/\w2.drew.cell? (w,2)=mx/\w2.drew.cell? (w,3)=el/\w2.drew.cell? (w,4)=ck/\w2.drew.cell? (w,5)=ns/\w2.drew.cell? (w,6)=nl/\w2.drew.cell? (w,7)=sp/\w2.drew.cell? (w,8)=(A1,n1,c1)/\w2.drew.cell? (w,9)=(A2,n2,c2)/\w2.drew.cell? (w,10)=pr/\w2.drew.cell? (w,11)=(A,n,c)):=zH ⟨m1,q0,q1,q2,q3,q4,q5,q6,q7,q8,q9,aF,aG⟩;clear S1' S2' yP ag;go_wp2_with fail;refine ah.start (λW=>W.cell? (bm,1)=(P0,pn,pU)/\W.cell? w=k/\W.cell? (w,1)=mn/\W.cell? (w,2)=mx/\W.cell? (w,3)=el/\W.cell? (w,4)=ck/\W.cell? (w,5)=ns/\W.cell? (w,6)=nl/\W.cell? (w,7)=sp/\W.cell? (w,8)=(A1,n1,c1)/\W.cell? (w,9)=(A2,n2,c2)/\W.cell? (w,10)=pr/\W.cell? (w,11)=(A,n,c)) 12 zK ?_;have hHeld:=EY.out;refine ah.tk 0 hHeld ?_;refine ah.tk 1 hHeld ?_;refine ah.tk 2 hHeld ?_;refine ah.tk 3 hHeld ?_;refine ah.tk 4 hHeld ?_;refine ah.tk 5 hHeld ?_;refine ah.tk 6 hHeld ?_;refine ah.tk 7 hHeld ?_;refine ah.on 8 λK hK=>?_;obtain⟨w3,vU,S3,su,az⟩:=af w2.drew (Zc #[k,mn,mx,el,ck,ns,nl,sp,(A1,n1,c1),(A2,n2,c2),pr,(A,n,c),num,()] 195);have e3:w3.heap.size=w2+1:=(by rw[<-vU];simp);have Vw:Bw w2 w3:=az.xY;have I4:=zH (uy.below Vw);have x2:=ae Ld Vw;obtain⟨z0,z1,z2,z3,z4,z5,z6,z7,z8,z9,nZ,og⟩:=aj (ae asV Vw);have mm3:w3.cell? (bm,1)=(P0,pn,pU):=(by rw[Ys w3 bm _ _ _ _ I4.blk];rfl);have Q4:Hid (w3.cell? (bm,1)=(P0,pn,pU)/\w3.cell? w=k/\w3.cell? (w,1)=mn/\w3.cell? (w,2)=mx/\w3.cell? (w,3)=el/\w3.cell? (w,4)=ck/\w3.cell? (w,5)=ns/\w3.cell? (w,6)=nl/\w3.cell? (w,7)=sp/\w3.cell? (w,8)=(A1,n1,c1)/\w3.cell? (w,9)=(A2,n2,c2)/\w3.cell? (w,10)=pr/\w3.cell? (w,11)=(A,n,c)):=zH ⟨mm3,z0,z1,z2,z3,z4,z5,z6,z7,z8,z9,nZ,og⟩;obtain⟨lc,hlc⟩:∃lc:rE 12,lc.1=[.int .i64 k,.int .i64 mn,.int .i64 mx,.int .i64 el,.int .i64 ck,.string ns,.string nl,.string sp,.slice A1 n1 c1,.slice A2 n2 c2,.int .i64 pr,.slice A n c]:=⟨⟨[k,mn,mx,el,ck,ns,nl,sp,(A1,n1,c1),(A2,n2,c2),pr,(A,n,c)],rfl,by intro u hu;simp only[TT,List.not_mem_nil,or_false] at hu;rcases hu with rfl | rfl | rfl | rfl | rfl | rfl | rfl | rfl | rfl | rfl | rfl | rfl<;>rfl⟩,rfl⟩
 have aaF:cu w3 w2 0 (sH ⟨lc,num,none,0,0⟩):=by
  intro j v hj;have S3':w3.heap[w2.heap.size]?=_:=S3;rw[d9,Ys w3 _ _ _ _ _ S3'];unfold sH lK.fv at hj;rw[hlc] at hj;rw[<-hj];simp
 have axR:rs.length<3000000:=(by rw[Xk.out];have:=BR.out;have:=Xk.out;omega);obtain⟨fA,fn,fc,w4,bG,Ed,CY,jl⟩:=amE w3 base rs P0 pn pU I4.own w2 1 ⟨lc,num,none,0,0⟩ aaF axR I4.le 167
 have IU:fn=pl.length+1:=by
  obtain⟨A',c',e⟩:=Ed.form;simp only[i6] at e;rw[e.2.1,List.length_append,BR.out];rfl
 have HLC:Hid (au w3 (· <base) (aZ p) lc.1):=zH (by rw[hlc];exact HR.below ((Lh.seq Vw).mono hle));obtain⟨JY,hK5⟩:=I4.add HLC (num:=num) Ed CY jl;obtain⟨w5,pq⟩:=zF (w4.setCell (bm,1) (fA,fn,fc));rw[pq] at JY hK5;have Dc:∀k,k<w3.heap.size->(Value.slice P0 pn pU).ownBlock≠some k->w4.heap[k]?=w3.heap[k]?:=λk h1 h2=>CY.block k h1 (λe=>h2 e.symm);have hpt:∀k,(Value.slice P0 pn pU).ownBlock=some k->k<w.heap.size/\k≠bm:=λk hk=>⟨(HM.inT k (HM.Fv k hk).1).2,(HM.Fv k hk).2⟩;have b4:w4.heap[bm]?=Zc (Yx hd (P0,pn,pU)) 169:=(Dc bm zO (λe=>(hpt bm e).2 rfl)).trans I4.blk;have y2:w4.heap[w.heap.size+1]?=Zc #[(),(),false] 171:=(Dc _ zO (λe=>by have:=(hpt _ e).1;omega)).trans x2;obtain⟨u0,u1,u2,u3,u4,u5,u6,u7,u8,u9,u10,u11⟩:=aj ((Dc w zO (λe=>by have:=(hpt _ e).1;omega)).trans (ae asV Vw));have mm4:w4.cell? (bm,1)=(P0,pn,pU):=(by rw[Ys w4 bm _ _ _ _ b4];rfl);have f4:=k8 w4 bm 1 _ _ b4;have aj8:Hid (w4.cell? (bm,1)=(P0,pn,pU)/\w4.cell? w=k/\w4.cell? (w,1)=mn/\w4.cell? (w,2)=mx/\w4.cell? (w,3)=el/\w4.cell? (w,4)=ck/\w4.cell? (w,5)=ns/\w4.cell? (w,6)=nl/\w4.cell? (w,7)=sp/\w4.cell? (w,8)=(A1,n1,c1)/\w4.cell? (w,9)=(A2,n2,c2)/\w4.cell? (w,10)=pr/\w4.cell? (w,11)=(A,n,c)):=zH ⟨mm4,u0,u1,u2,u3,u4,u5,u6,u7,u8,u9,u10,u11⟩;have y5:w5.heap[w.heap.size+1]?=Zc #[(),(),false] 171:=(by rw[<-pq];exact dE zO y2);have b5:w5.heap[bm]?=Zc (Yx hd (fA,fn,fc)) 169:=JY.blk;obtain⟨Dj,Rk,HY5,HW5,qB,HFN,lX,HO4⟩:=zJ8 JY hK5 y5 pq bG IU Vw Ed;obtain⟨asY,BU⟩:=zJ2 jl b5;clear JY hK5 y5 pq bG IU Vw az Ed jl b5 hHeld S3 aaF Dc hpt b4 y2 x2 hlc CY;go_simp;refine di hK (λ_=>Q4) ?_;clear hK K;refine ah.on 9 λK hK=>?_;refine wM rfl (.tmp 17) (.tmp 21) 167 rfl rfl rfl qB ?_;refine di hK (λ_=>aj8) ?_;clear hK K;have hHeld:=aj8.out;refine ah.ta 10 hHeld ?_;refine ah.ta 11 hHeld ?_;refine ah.oe 12 ?_;refine ah.dn ?_;rw[HW5.out];have s5:w3.heap.size<=w5:=Rk.size;obtain⟨ln,Zz⟩:=zF pl.length;have IU:=HFN.out;rw[Zz] at IU;subst IU;have UA:=zH Zz;have amM:ln<=1000:=zO;have hwr:IntKind.i64.wrap (ln:Int)=(ln:Int):=zS3;clear Zz;have c5:w5.cell? (bm,1)=(fA,ln+1,fc):=(by rw[Ys w5 bm _ _ _ _ BU];rfl);have G6:Hid (w5.drew.cell? (bm,1)=(fA,ln+1,fc)):=zH c5;clear hHeld f4;go_wp2_with fail;refine ah.start (λW=>W.cell? (bm,1)=(fA,ln+1,fc)) 15 zK ?_;have hHeld:=G6.out;refine ah.tk 0 hHeld ?_;refine ah.tk 1 hHeld ?_;refine ah.tk 2 hHeld ?_;refine ah.tk 3 hHeld ?_;refine ah.tk 4 hHeld ?_;refine ah.tk 5 hHeld ?_;refine ah.tk 7 hHeld ?_;refine ah.tk 8 hHeld ?_;refine ah.tk 9 hHeld ?_;refine ah.tk 10 hHeld ?_;refine ah.tk 11 hHeld ?_;refine ah.tk 12 hHeld ?_
 have HOP:Hid (kL p num pl=(pl++[⟨p,num,[]⟩],⟨[ln],[ln],false⟩)):=zH (by
  rw[<-UA.out];obtain⟨k',nI,mx',uo,c',pr',args'⟩:=p
  rw[kL,j6 (show fD k'=true from Md)])
 have fC:Hid (∀k,(T k\/(Value.slice fA (ln+1) fc).ownBlock=some k)->T k\/w.heap.size<=k):=zH (by
  rintro k (h | h)
  ·exact .inl h
  rcases asY.out with e | e
  ·exact .inl (HM.Fv k (e.symm.trans h)).1
  have e':=e.symm.trans h;have:=zI e'
  right;omega)
 have HNT:Hid (¬(T (w.heap.size+1)\/(Value.slice fA (ln+1) fc).ownBlock=some (w.heap.size+1))):=zH (by
  have vN:¬T (w.heap.size+1):=λh=>(by have:=(HM.inT _ h).2;omega);rintro (h | h)
  ·exact vN h
  rcases asY.out with e | e
  ·exact vN (HM.Fv _ (e.symm.trans h)).1
  have e':=e.symm.trans h;have:=zI e'
  omega)
 have s12:w.heap.size+2<=w2:=zO;refine ah.tw 6 13 (λK hK=>?_) (λK hK=>?_)
 ·obtain⟨w6,hw6,S6,hs6,dQ⟩:=af w5.drew (Zc #[ln] 3);obtain⟨w7,JX,S7,hs7,eP⟩:=af w6 (Zc #[ln] 3);have e6:w6.heap.size=w5+1:=(by rw[<-hw6];simp);have e7:w7.heap.size=w6+1:=(by rw[<-JX];simp);have Vx:Bw w5 w6:=dQ.xY;have S6':w6.heap[w5.heap.size]?=Zc #[ln] 3:=S6;have N8:=Vx.seq eP;have c6:w6.cell? (bm,1)=(fA,ln+1,fc):=(by rw[Ys w6 bm _ _ _ _ (ae BU Vx)];rfl);have c7:w7.cell? (bm,1)=(fA,ln+1,fc):=(by rw[Ys w7 bm _ _ _ _ (ae BU N8)];rfl);have y7:=ae HY5 N8;have f0:=zF3 w7 (w.heap.size+1) y7;have b0:=dJ y7;have S5':=ae S6' eP;rw[e6] at S7;obtain⟨G5,amN,HY7,acH⟩:=zJ4 S7 S5' y7 N8;clear S6 S7 S6' S5' dQ Vx eP N8 hHeld y7;go_simp;refine di hK (λ_=>c6) ?_;clear hK K;refine ah.acF 13 (λ_=>c7) ?_;have hHeld:=c7;refine ah.tk 14 hHeld ?_;refine ah.oe 15 ?_;refine ah.dn ?_;go_wp2_with fail;have Q7:=yT (v0:=.slice (some ⟨w5,0,none⟩) 1 1) (v1:=.slice (some ⟨w5.heap.size+1,0,none⟩) 1 1) (v2:=false) HY7;obtain⟨l0,l1,l2⟩:=dJ Q7;refine Qg (v:=.agg #[.slice (some ⟨w5,0,none⟩) 1 1,.slice (some ⟨w5.heap.size+1,0,none⟩) 1 1,.bool false]) (by simp[results,results167,go_sem,l0,l1,l2]) rfl ?_;rw[HOP.out]
  have mM:iT w7 base (λk=>w5<=k/\¬(T k\/(Value.slice fA (ln+1) fc).ownBlock=some k)) (⟨[ln],[ln],false⟩:dR) (w5,0,1,1) (w5.heap.size+1,0,1,1):=by
   refine⟨sQ amN zO,sQ G5 zO,λk hk=>?_,λk hk=>?_,λk h1 h2=>by have e1:=zI h1;have e2:=zI h2;simp only at e1 e2;omega⟩
   ·have e1:w5=k:=zI hk;exact⟨zO,λh=>by have:=(Dj.inT _ h).2;omega⟩
   have e1:w5+1=k:=zI hk;exact⟨zO,λh=>by have:=(Dj.inT _ h).2;omega⟩
  exact EG (B:=w5) (λ_ h=>.inl h) fC zO hle HNT (((Qh (Lh.seq lX)).up Rk λ_ h=>.inl h).up (Qh acH (M:=λ_=>False)) λ_ h=>h.elim) (Dj.below acH) mM zO zO rfl rfl
 obtain⟨w6,hw6,S6,hs6,dQ⟩:=af w5.drew (Zc #[ln] 3);obtain⟨w7,JX,S7,hs7,eP⟩:=af w6 (Zc #[ln] 3);have e6:w6.heap.size=w5+1:=(by rw[<-hw6];simp);have e7:w7.heap.size=w6+1:=(by rw[<-JX];simp);have Vx:Bw w5 w6:=dQ.xY;have S6':w6.heap[w5.heap.size]?=Zc #[ln] 3:=S6;have N8:=Vx.seq eP;have c6:w6.cell? (bm,1)=(fA,ln+1,fc):=(by rw[Ys w6 bm _ _ _ _ (ae BU Vx)];rfl);have c7:w7.cell? (bm,1)=(fA,ln+1,fc):=(by rw[Ys w7 bm _ _ _ _ (ae BU N8)];rfl);have y7:=ae HY5 N8;have f0:=zF3 w7 (w.heap.size+1) y7;have b0:=dJ y7;have S5':=ae S6' eP;rw[e6] at S7;obtain⟨G5,amN,HY7,acH⟩:=zJ4 S7 S5' y7 N8;clear S6 S7 S6' S5' dQ Vx eP N8 hHeld y7;go_simp;refine di hK (λ_=>c6) ?_;clear hK K;refine ah.acF 6 (λ_=>c7) ?_;have hHeld:=c7;refine ah.tk 14 hHeld ?_;refine ah.oe 15 ?_;refine ah.dn ?_;go_wp2_with fail;have Q7:=yT (v0:=.slice (some ⟨w5.heap.size+1,0,none⟩) 1 1) (v1:=.slice (some ⟨w5,0,none⟩) 1 1) (v2:=false) HY7;obtain⟨l0,l1,l2⟩:=dJ Q7;refine Qg (v:=.agg #[.slice (some ⟨w5.heap.size+1,0,none⟩) 1 1,.slice (some ⟨w5,0,none⟩) 1 1,.bool false]) (by simp[results,results167,go_sem,l0,l1,l2]) rfl ?_;rw[HOP.out]
 have mM:iT w7 base (λk=>w5<=k/\¬(T k\/(Value.slice fA (ln+1) fc).ownBlock=some k)) (⟨[ln],[ln],false⟩:dR) (w5.heap.size+1,0,1,1) (w5,0,1,1):=by
  refine⟨sQ G5 zO,sQ amN zO,λk hk=>?_,λk hk=>?_,λk h1 h2=>by have e1:=zI h1;have e2:=zI h2;simp only at e1 e2;omega⟩
  ·have e1:w5+1=k:=zI hk;exact⟨zO,λh=>by have:=(Dj.inT _ h).2;omega⟩
  have e1:w5=k:=zI hk;exact⟨zO,λh=>by have:=(Dj.inT _ h).2;omega⟩
 exact EG (B:=w5) (λ_ h=>.inl h) fC zO hle HNT (((Qh (Lh.seq lX)).up Rk λ_ h=>.inl h).up (Qh acH (M:=λ_=>False)) λ_ h=>h.elim) (Dj.below acH) mM zO zO rfl rfl
