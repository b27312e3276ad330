import Derived.Test.YtgmnnegfndpakaaGreatDoorH16
import Derived.Test.YtgmnnegfndpakaaGreatDoorH15
set_option maxHeartbeats 20000000
set_option maxRecDepth 100000
namespace Go.Proofs.YtgmnnegfndpakaaGreatDoor
open Go.RowKit Go.Proofs.Tryz
variable{w3 wr w' w:World}{base bm t7 m1 c1 m2 c2 g:Nat}{T T':Nat->Prop}{hd:Hd}{r:List aU×dR}{A1 A2:Option Addr}{u0 u1 u2 v0 v1 v2:Value}
def qL(w3:World)(base bm t7:Nat)(T:Nat->Prop)(hd:Hd)(r:List aU×dR)(wr:World):Prop:=
 ∃(T':Nat->Prop) (pv':Value) (rs':List lK) (A1:Option Addr) (m1 c1:Nat) (A2:Option Addr) (m2 c2:Nat),gV wr base T' bm hd r.1 pv' rs'/\(∀k,T k->T' k)/\(∀k,T' k->T k\/w3.heap.size<=k)/\Kept (λk=>T k\/k=t7) w3 wr/\
  wr.heap[t7]?=Zc #[(A1,m1,c1),(A2,m2,c2),r.2.empty] 171/\iT wr base (λk=>w3.heap.size<=k/\¬T' k) r.2 (A1,m1,c1) (A2,m2,c2)
theorem qL.step{w'':World}{T'' T3:Nat->Prop}{r r2:List aU×dR}{pv3:Value}{rs3:List lK}
 (h1:∀k,T k->T' k) (h2:∀k,T' k->T k\/w3.heap.size<=k) (hk:Kept (λk=>T k\/k=t7) w3 wr) (ht7:t7<w3) (ZY:¬T t7) (eP:base<=t7)
 (a1:∀k,T' k->T'' k) (a2:∀k,T'' k->T' k\/wr.heap.size<=k) (ak:Kept T' wr w')
 (b1:∀k,T'' k->T3 k) (b2:∀k,T3 k->T'' k\/w'.heap.size<=k) (bk:Kept T'' w' w'') (hM:gV w'' base T3 bm hd r2.1 pv3 rs3)
  (hc:w''.heap[t7]?=Zc #[u0,u1,u2] 171) (hS:iT w'' base (λk=>w'.heap.size<=k/\¬T3 k) r2.2 (A1,m1,c1) (A2,m2,c2)):
 qL w3 base bm t7 T hd r2 (((w''.setCell t7 (A1,m1,c1)).setCell (t7,1) (A2,m2,c2)).setCell (t7,2) r2.2.empty):=by
 obtain⟨s1,s2,s3⟩:=zK3 hk.size ak.size bk.size
 have hT3:∀k,T3 k->T k\/w3.heap.size<=k:=λk bW=>by
  rcases b2 k bW with h | h
  ·rcases a2 k h with h | h
   ·exact h2 k h
   right;omega
  right;omega
 have FH:¬T3 t7:=λh=>by
  rcases hT3 t7 h with h | h
  ·exact ZY h
  omega
 refine⟨T3,pv3,rs3,A1,m1,c1,A2,m2,c2,hM.keep (by simp[World.setCell]) λk bW=>kG (λe=>by subst e;rcases bW with h | h;exact FH h;omega),λk h=>b1 k (a1 k (h1 k h)),hT3,?_,yT hc,?_⟩
 ·refine⟨?_,?_,?_,by simp[World.setCell];omega,λk bW hn=>?_⟩
  ·exact bk.os.trans (ak.os.trans hk.os)
  ·exact bk.tape.trans (ak.tape.trans hk.tape)
  ·exact bk.output.trans (ak.output.trans hk.output)
  have CO:¬T' k:=λh=>by
   rcases h2 k h with h | h
   ·exact hn (.inl h)
   omega
  have aBm:¬T'' k:=λh=>by
   rcases a2 k h with h | h
   ·exact CO h
   omega
  rw[kG (λe=>hn (.inr e)),bk.block k zO aBm,ak.block k zO CO,hk.block k bW hn]
 exact hS.keep λk aN hG=>⟨⟨zO,hG.2⟩,kG zO⟩
theorem ae7{p:aJ}(h:kR p=true):0<=p.mn/\p.mn<=20/\(p.mx= -1\/(p.mn<=p.mx/\1<=p.mx/\p.mx<=20)):=by
 obtain⟨k,mn,mx,el,c,pr,args⟩:=p;exact(rJ h).1
theorem _root_.Go.RowKit.Kept.up{w0:World}(h:Kept T w0 w)(h':Kept T' w w')(hT:∀j,T' j->T j\/w0.heap.size<=j):Kept T w0 w':=
 ⟨h'.os.trans h.os,h'.tape.trans h.tape,h'.output.trans h.output,zT h.size h'.size,λk hk hn=>(h'.block k (d4 hk h.size) (λe=>by rcases hT k e with e | e;exact hn e;omega)).trans (h.block k hk hn)⟩
theorem tu.star{pl:List aU}{L:List LI->Prop}{m n:Nat}(h:tu pl)(hm:Made pl.length pl r L)(hb:Bd pl.length m n r)(h1:m+n<=300000):tu (dB r.1 r.2 r.2):=λi q hq=>by
 obtain⟨q0,hq0,hl⟩:=Ht hb.nd hq;by_cases hi:i∈r.2.last
 ·rw[j6 hi] at hl;have:=hb.qI i q0 (hm.ok.fF.last i hi).1 hq0;have:=hb.fl;omega
 rw[j5 hi] at hl;have:=(h.made hm hb zO) i q0 hq0;omega
theorem EG{w7:World}{B:Nat}{T4:Nat->Prop}{pv4:Value}{rs4:List lK}{e:Ending}(vN:∀k,T k->T4 k)(fB:∀k,T4 k->T k\/w.heap.size<=k)
 (hg:w<=g) (hgb:base<=w) (hn:¬T4 g) (hk:Kept T w w7) (hM:gV w7 base T4 bm hd r.1 pv4 rs4) (hS:iT w7 base (λk=>B<=k/\¬T4 k) r.2 (A1,m1,c1) (A2,m2,c2)) (hB:w<=B) (hgB:g<B) {b:Bool} (jm:r.2.empty=b)
 (he:e= .returned (.agg #[(A1,m1,c1),(A2,m2,c2),b])) :wP w base bm T hd r e (((w7.setCell g v0).setCell (g,1) v1).setCell (g,2) v2):=by
 refine⟨T4,pv4,rs4,_,_,by rw[jm];exact he,hM.keep (by simp[World.setCell]) λk bW=>kG (λe=>by subst e;rcases bW with h | h;exact hn h;omega),vN,fB,?_,?_⟩
 ·exact((hk.setCell (p:=g) (.inr hg) _).setCell (p:=⟨g,1,none⟩) (.inr hg) _).setCell (p:=⟨g,2,none⟩) (.inr hg) _
 exact hS.keep λk aN hG=>⟨⟨zO,hG.2⟩,kG zO⟩
theorem qL.last(h:qL w3 base bm t7 T hd r wr)(ZY:¬T t7)(ht7:t7<w3)(eP:base<=t7):
 qL w3 base bm t7 T hd (r.1,{ r.2 with empty:=true }) (wr.setCell (t7,2) true):=by
 obtain⟨T',pv',rs',A1,m1,c1,A2,m2,c2,hM,h1,h2,hk,hc,hS⟩:=h
 have hn:¬T' t7:=λh=>by
  rcases h2 t7 h with h | h
  ·exact ZY h
  omega
 have far:∀k,k≠t7->(wr.setCell (t7,2) true).heap[k]?=wr.heap[k]?:=λk hk=>b7 _ _ _ _ hk;refine⟨T',pv',rs',A1,m1,c1,A2,m2,c2,hM.keep (by simp[World.setCell]) λk bW=>far k (λe=>by subst e;rcases bW with h | h;exact hn h;omega),h1,h2,hk.setCell (.inl (.inr rfl)) _,dM hc,?_⟩;have h3:=hS.keep (G':=λk=>w3.heap.size<=k/\¬T' k) (w':=wr.setCell ⟨t7,2,none⟩ (.bool true)) λk aN hG=>⟨hG,far k (λe=>by have:=hG.1;omega)⟩;exact⟨h3.f,h3.l,h3.gf,h3.gl,h3.ne⟩
theorem azn{W:World}{p:Nat}{t t':TypeId}{fr fr':Nat×Nat}{u3 u4 u5 u6 u7 u8 u9 u10 u11:Value}(h:W.heap[g]?=some (.cells #[v0,v1,v2] t fr))(h':W.heap[p]?=some (.cells #[u0,u1,u2,u3,u4,u5,u6,u7,u8,u9,u10,u11] t' fr')):W.cell? g=v0/\W.cell? (g,1)=v1/\W.cell? (g,2)=v2/\W.cell? p=u0/\W.cell? (p,1)=u1/\W.cell? (p,2)=u2/\W.cell? (p,3)=u3/\W.cell? (p,4)=u4/\W.cell? (p,5)=u5/\W.cell? (p,6)=u6/\W.cell? (p,7)=u7/\W.cell? (p,8)=u8/\W.cell? (p,9)=u9/\W.cell? (p,10)=u10/\W.cell? (p,11)=u11:=⟨(dJ h).1,(dJ h).2.1,(dJ h).2.2,aj h'⟩
theorem Pm(p:aJ)(hg:kR p=true)(hn:dh p<=40)(hc:lJ p<=200)(ho:QW p):Mc p:=by
 intro num cs w base bm T hd pl pv rs hM hr hF hlen lQ;have hle:=hM.le;obtain⟨k,mn,mx,el,ck,ns,nl,sp,A1,n1,c1,A2,n2,c2,pr,A,n,c,rfl,hk,vH,l9,-⟩:=aW hr;obtain⟨w1,bI,S1,S2,nC,ai⟩:=zP2 w k mn mx el ck ns nl sp A1 n1 c1 A2 n2 c2 pr A n c (Zc #[(),(),false] 171);have e1:w1=w.heap.size+2:=(by rw[<-bI];simp);obtain⟨aQ,gY,HM,HR,HO,HF⟩:=zJ6 S1 S2 hM hr ho hF;obtain⟨z,hz⟩:=zF (dC p);have HZ:=zH hz;have asw:Hid (Rt 52 #[.agg (o5 k mn mx el ck ns nl sp A1 n1 c1 A2 n2 c2 pr A n c)] w1 z):=zH (FM p _ w1 _ (hr.below (ai.mono hle)) hz);have ZZ:=zH vH;have JU:=zH l9;have q0:=aj S1;clear S1 S2 hM hr ho hF hz hk vH l9;by_cases h0:z=0
 ·have jV:(z==0)=true:=(by simpa using h0);have HT0:Hid (fV p num pl=(pl,oN)):=zH (by unfold fV rH;rw[HZ.out,j6 h0]);clear h0;go_enter func124,ntmps124;go_wp2_with fail;refine asw.out.mono ?_;rintro e w2 ⟨rfl,ag⟩;have vI:=ae gY.out ag;obtain⟨r0,r1,r2⟩:=dJ vI;obtain⟨f0,f1,f2,Ff⟩:=zK4 (k8 w2 (w.heap.size+1) 0 _ _ vI) (k8 w2 (w.heap.size+1) 1 _ _ vI) (k8 w2 (w.heap.size+1) 2 _ _ vI) (zH vI);clear vI;go_wp2_with fail;have hs:=yT (v0:=()) (v1:=()) (v2:=true) Ff.out;obtain⟨l0,l1,l2⟩:=dJ hs;refine Qg (v:=.agg #[(),(),true]) (by simp[results,results124,go_sem,l0,l1,l2]) rfl ?_;rw[HT0.out];have dY:=ai.seq ag;have bY:=ag.size;refine⟨T,pv,rs,_,_,rfl,HM.out.keep (by simp[World.setCell];omega) λj hj=>?_,λ_ h=>h,λ_ h=>.inl h,?_,ax.nil _ _ _ _ _,ax.nil _ _ _ _ _,λj hj=>(by cases hj),λj hj=>(by cases hj),λj hj=>(by cases hj)⟩
  ·have hjw:j<w:=by
    rcases hj with hj | hj
    ·exact(HM.out.inT j hj).2
    omega
   rw[kG zO];exact dY.block j hjw
  exact Qh ((((dY).setCell (by show w.heap.size<=w+1;omega) _).setCell (by show w.heap.size<=w+1;omega) _).setCell (by show w.heap.size<=w+1;omega) _)
 have jV:(z==0)=false:=(by simpa using h0);have HZ0:=zH h0;clear h0;have ZR:=ae7 hg;rw[ZZ.out,JU.out] at ZR;have HGF:=zH ZR;obtain⟨kk,rfl⟩:∃kk:Nat,mn=kk:=⟨mn.toNat,zO⟩;have FN:kk<=20:=zO;clear ZR;obtain⟨once,axO⟩:=zF (kL p num);have D7:=zH axO;go_enter func124,ntmps124;go_wp2_with fail;refine asw.out.mono ?_;rintro e w2 ⟨rfl,ag⟩;obtain⟨w3,vU,S3,su,az⟩:=af w2 (Zc #[(),(),true] 171);have jX:=ag.seq az;have uS:=ag.size;clear q0;have q0:=aj (ae aQ.out jX);have vC:=zH S3;clear S3;have I4:=zH (HM.out.below (ai.seq jX));go_wp2_with fail
 go_loopw [17] (λsi wr=>∃j:Nat,j<=kk/\si= j/\qL w3 base bm w2 T hd (kY once j pl oN) wr)
  (λsi _=>kk - (intOf si).toNat)
 case atStart=>exact⟨0,zO,rfl,T,pv,rs,none,0,0,none,0,0,I4.out,λ_ h=>h,λ_ h=>.inl h,Kept.refl _ _,vC.out,ax.nil _ _ _ _ _,ax.nil _ _ _ _ _,λj hj=>(by cases hj),λj hj=>(by cases hj),λj hj=>(by cases hj)⟩
 clear q0;obtain⟨j,hj,rfl,T',pv',rs',B1,m1,d1,B2,m2,d2,tC,vN,fB,lH,h7,hS⟩:=hrel;have BP:∀q,T q->q<w.heap.size:=λq hq=>(HM.out.inT q hq).2;have uh:wr.heap[w.heap.size]?=Zc #[k,kk,mx,el,ck,ns,nl,sp,(A1,n1,c1),(A2,n2,c2),pr,(A,n,c)] 29:=(lH.block _ zO (by rintro (h | h);have:=BP _ h;omega;omega)).trans (ae aQ.out jX);have zW:wr.heap[w.heap.size+1]?=Zc #[(),(),false] 171:=(lH.block _ zO (by rintro (h | h);have:=BP _ h;omega;omega)).trans (ae gY.out jX);obtain⟨Dh,HR6⟩:=zJ2 uh zW;obtain⟨be,jm⟩:=zF ((kY once j pl oN).2.empty);rw[jm] at h7;have s0:=dJ h7;have q0:=aj uh;by_cases aN:j<kk
 ·have gJ:=zT1 (j<kk);obtain⟨r,hr⟩:=zF (kY once j pl oN);have D8:=afO hg hn (zT (xJ p hg) hc) num pl j;rw[D7.out,hr] at D8;rw[hr] at tC hS jm
  have bH:(j+1)*ja p<=lJ p:=by
   rw[Ij,Nat.mul_comm];refine Nat.mul_le_mul_left _ ?_;have:=HGF.out;unfold rep;rw[ZZ.out,JU.out]
   split<;>omega
  rw[Nat.add_mul,Nat.one_mul] at bH;have uU:tu r.1:=HF.out.made D8.1 D8.2 zO;have UC:r.1.length+ja p<=1000:=(by rw[D8.2.len];omega);have I5:gV wr.drew base T' bm hd r.1 pv' rs':=tC.keep (zR _) λ_ _=>rfl
  have Z4:au wr.drew (· <base) (aZ p) [k,kk,mx,el,ck,ns,nl,sp,(A1,n1,c1),(A2,n2,c2),pr,(A,n,c)]:=HR.out.keep λb hb=>⟨hb,by
   show wr.heap[b]?=_
   rw[lH.block b zO (by rintro (h | h);have:=(HM.out.inT b h).1;omega;omega),(ai.seq jX).block b zO]⟩
  have Xe:Hid (Cl 167 #[(bm,0),.agg #[k,kk,mx,el,ck,ns,nl,sp,(A1,n1,c1),(A2,n2,c2),pr,(A,n,c)],num] wr.drew (wP wr.drew base bm T' hd (once r.1))):=zH (by
   have:=HO.out num _ wr.drew base bm T' hd r.1 pv' rs' I5 Z4 uU UC lQ
   rwa [D7.out] at this)
  obtain⟨QY,rM,gW,fC,HS,H7,pO,HRJ⟩:=zJ8 D8 lH vN fB hS h7 jm hr;have NV:=zH uU;have abo:=azn (W:=wr.drew) h7 uh;have EY:=zH abo;clear D8 tC I5 Z4 uU lH vN fB hS h7 jm hr uh zW abo;go_wp2_with fail;refine ah.start (λW=>W.cell? w2=(B1,m1,d1)/\W.cell? (w2,1)=(B2,m2,d2)/\W.cell? (w2,2)=be/\W.cell? w=k/\W.cell? (w,1)=kk/\W.cell? (w,2)=mx/\W.cell? (w,3)=el/\W.cell? (w,4)=ck/\W.cell? (w,5)=ns/\W.cell? (w,6)=nl/\W.cell? (w,7)=sp/\W.cell? (w,8)=(A1,n1,c1)/\W.cell? (w,9)=(A2,n2,c2)/\W.cell? (w,10)=pr/\W.cell? (w,11)=(A,n,c)) 7 zK ?_;have hHeld:=EY.out;refine ah.tk 0 hHeld ?_;refine ah.tk 1 hHeld ?_;refine ah.tk 2 hHeld ?_;refine ah.tk 3 hHeld ?_;refine ah.tk 4 hHeld ?_;refine ah.on 5 λK hK=>?_;go_simp;refine Xe.out.mono ?_;rintro e w' ⟨T2,JV,JW,vf,vl,rfl,hM2,CB,BJ,uA,Aa⟩;obtain⟨E1,f1,rfl⟩:=Aa.f.form;obtain⟨E2,f2,rfl⟩:=Aa.l.form
  have ZY:¬T' w2.heap.size:=λh=>by
   rcases fC.out _ h with h | h
   ·have:=BP _ h;omega
   omega
  have Gi:¬T' w.heap.size:=λh=>by
   rcases fC.out _ h with h | h
   ·have:=BP _ h;omega
   omega
  have h7':=(uA.block _ (aC H7.out) ZY).trans H7.out;have Hw:=(uA.block _ (aC Dh.out) Gi).trans Dh.out;have x0:=dJ h7';have p0:=aj Hw;have ajO:=azn h7' Hw;obtain⟨acw,H7',uy,UD,qZ,uV,Ld⟩:=zJ7 ajO h7' hM2 CB BJ uA Aa;clear ajO h7' Hw hM2 CB BJ uA Aa hHeld;go_wp2_with fail;refine di hK (λ_=>acw.out) ?_;clear hK K;refine ah.on 6 λK hK=>?_;go_simp;have kV:Made r.1.length r.1 (once r.1) (rW p num):=(by have:=wK p hg hn num r.1;rwa [D7.out] at this);have jB:Bd r.1.length (5200*(dh p - 1)) (ja p) (once r.1):=(by have:=Ik p hg hn (zT (xJ p hg) hc) num r.1;rwa [D7.out] at this);have GX:iT w' base (λk=>w3<=k/\¬T' k/\k<wr) r.2 (B1,m1,d1) (B2,m2,d2):=HS.out.keep λk aN hG=>⟨⟨hG.1,hG.2,aN⟩,uV.out.block k aN hG.2⟩
  have xu:=BO base bm T2 hd (once r.1).1 JW r.2 (once r.1).2 _ _ _ _ JV w' _ _ uy.out GX Ld.out
   (λk h e=>by
     rcases qZ.out k e with e | e
     ·exact h.2.1 e
     have:wr<=k:=e
     omega)
   (λk h=>h.2) (λi hi=>by have:=(QY.out.1.ok.fF.last i hi).2;have:=kV.base;omega)
   ⟨by have:=QY.out.2.fl;omega,by have:=QY.out.2.ll;omega,by have:=jB.fl;omega,by have:=jB.ll;omega⟩
   (NV.out.made kV jB zO)
  rw[pO.out] at xu;have Xf:=zH xu;clear xu GX;refine Xf.out.mono ?_;rintro e w'' ⟨T3,rs3,vf,vl,rfl,O9,QZ,Gj,sJ,hS3⟩;obtain⟨G1,g1,rfl⟩:=hS3.f.form;obtain⟨G2,g2,rfl⟩:=hS3.l.form
  have aBn:¬T2 w2.heap.size:=λh=>by
   rcases qZ.out _ h with h | h
   ·exact ZY h
   have h':wr.heap.size<=w2:=h;have:=rM.out.size;omega
  have axP:¬T2 w.heap.size:=λh=>by
   rcases qZ.out _ h with h | h
   ·exact Gi h
   have h':wr<=w.heap.size:=h;have:=rM.out.size;omega
  have YA:=(sJ.block _ (aC H7'.out) aBn).trans H7'.out;have Q3:=(sJ.block _ (by have:=uV.out.size;have h2:wr.heap.size<=w':=this;have:=aC Dh.out;omega) axP).trans ((uV.out.block _ (aC Dh.out) Gi).trans Dh.out);obtain⟨y0,u0,t0,t1,t2,ajP⟩:=zK6 (dJ YA) (aj Q3) (k8 w'' w2 0 _ _ YA) (k8 w'' w2 1 _ _ YA) (k8 w'' w2 2 _ _ YA) (azn YA Q3);obtain⟨Q4,aBo,aBp,nK,DU,Z5,aBq⟩:=zJ7 ajP YA O9 QZ Gj sJ hS3;clear ajP YA Q3 O9 QZ Gj sJ hS3;go_wp2_with fail;refine di hK (λ_=>Q4.out) ?_;clear hK K;refine ah.oe 7 ?_;refine ah.dn ?_;go_wp2_with fail;go_roundw
  case rel=>
   refine⟨j+1,zO,by go_num,?_⟩;have Di:kY once (j+1) pl oN=(dB (once r.1).1 r.2 (once r.1).2,fG r.2 (once r.1).2):=(by rw[ZV,HRJ.out]);rw[Di];have bZ:=qL.step (r:=r) (r2:=(dB (once r.1).1 r.2 (once r.1).2,fG r.2 (once r.1).2)) (t7:=w2) gW.out fC.out rM.out su (λh=>by have:=BP _ h;omega) zO UD.out qZ.out (show Kept T' wr w' from ⟨uV.out.os,uV.out.tape,uV.out.output,uV.out.size,uV.out.block⟩) nK.out DU.out Z5.out aBp.out aBo.out aBq.out;rw[show (dB (once r.1).1 r.2 (once r.1).2,fG r.2 (once r.1).2).2.empty=(be&&(once r.1).2.empty) from by rw[<-pO.out];rfl] at bZ;exact bZ
  simp[intOf];omega
 obtain rfl:j=kk:=zO;have gJ:=zT2 (j<j);obtain⟨r,hr⟩:=zF (kY once j pl oN);have D8:=afO hg hn (zT (xJ p hg) hc) num pl j;rw[D7.out,hr] at D8;rw[hr] at tC hS jm;by_cases iY:mx= -1
 ·have aBr:(mx== -1)=true:=(by simpa using iY);have yY:=zH iY;clear iY
  have bH:(j+1)*ja p<=lJ p:=by
   rw[Ij,Nat.mul_comm];refine Nat.mul_le_mul_left _ ?_;unfold rep;rw[ZZ.out,JU.out,j6 yY.out];omega
  rw[Nat.add_mul,Nat.one_mul] at bH;have uU:tu r.1:=HF.out.made D8.1 D8.2 zO;have UC:r.1.length+ja p<=1000:=(by rw[D8.2.len];omega)
  have Z4:au wr (· <base) (aZ p) [k,j,mx,el,ck,ns,nl,sp,(A1,n1,c1),(A2,n2,c2),pr,(A,n,c)]:=HR.out.keep λb hb=>⟨hb,by
   rw[lH.block b zO (by rintro (h | h);have:=(HM.out.inT b h).1;omega;omega),(ai.seq jX).block b zO]⟩
  have Xe:Hid (Cl 167 #[(bm,0),.agg #[k,j,mx,el,ck,ns,nl,sp,(A1,n1,c1),(A2,n2,c2),pr,(A,n,c)],num] wr (wP wr base bm T' hd (once r.1))):=zH (by
   have:=HO.out num _ wr base bm T' hd r.1 pv' rs' tC Z4 uU UC lQ
   rwa [D7.out] at this)
  obtain⟨QY,rM,gW,fC,HS,H7,pO,HRJ⟩:=zJ8 D8 lH vN fB hS h7 jm hr;have NV:=zH uU;clear D8 tC Z4 uU lH vN fB hS h7 jm hr uh zW;go_wp2_with fail;refine Xe.out.mono ?_;rintro e w4 ⟨T2,JV,JW,vf,vl,rfl,hM2,CB,BJ,uA,Aa⟩;obtain⟨E1,f1,rfl⟩:=Aa.f.form;obtain⟨E2,f2,rfl⟩:=Aa.l.form;obtain⟨D9,I9⟩:=zF ((once r.1).2.empty);rw[I9];obtain⟨g1,lV⟩:=zF ((once r.1).2.first.length);obtain⟨g2,qo⟩:=zF ((once r.1).2.last.length);rw[lV,qo] at Aa ⊢;obtain⟨w5,pq,S5,IY,bg⟩:=af w4 (Zc #[(E1,g1,f1),(E2,g2,f2),D9] 171);have x0:=dJ S5;have Q5:∀q,T2 q->q<w4.heap.size:=λq h=>(hM2.inT q h).2;obtain⟨vW,Dj,UD,qZ,uV,Ld,Vt⟩:=zK7 (zH S5) (zH (hM2.below bg)) (zH CB) (zH BJ) (zH uA) (zH Aa) (zH I9);clear S5 hM2 CB BJ uA Aa I9 lV qo;go_wp2_with fail;have kV:Made r.1.length r.1 (once r.1) (rW p num):=(by have:=wK p hg hn num r.1;rwa [D7.out] at this);have jB:Bd r.1.length (5200*(dh p - 1)) (ja p) (once r.1):=(by have:=Ik p hg hn (zT (xJ p hg) hc) num r.1;rwa [D7.out] at this);have hcO:ja p<=200:=(by have:=xJ p hg;omega);have GX:iT w5 base (λk=>wr<=k/\¬T2 k/\k<w4) (once r.1).2 (E1,g1,f1) (E2,g2,f2):=Ld.out.keep λk aN hG=>⟨⟨hG.1,hG.2,aN⟩,bg.block k aN⟩
  have xu:=BO base bm T2 hd (once r.1).1 JW (once r.1).2 (once r.1).2 _ _ _ _ JV w5 _ _ Dj.out GX GX (λk h=>h.2.1) (λk h=>h.2.1) (λi hi=>(kV.ok.fF.last i hi).2)
   ⟨by have:=jB.fl;omega,by have:=jB.ll;omega,by have:=jB.fl;omega,by have:=jB.ll;omega⟩ (NV.out.made kV jB zO)
  rw[Vt.out] at xu;have Xf:=zH xu;clear xu GX;refine Xf.out.mono ?_;rintro e w6 ⟨T3,rs3,vf,vl,rfl,O9,QZ,Gj,sJ,-⟩;have s4:wr.heap.size<=w4:=uV.out.size;have s5:w5.heap.size=w4+1:=(by rw[<-pq];simp);have s6:w5.heap.size<=w6:=sJ.size;have s3:w3.heap.size<=wr:=rM.out.size;have s23:w3.heap.size=w2+1:=(by rw[<-vU];simp)
  have yZ:∀q,w.heap.size<=q->q<w3.heap.size->¬T' q:=λq h1 h2 h=>by
   rcases fC.out _ h with h | h
   ·have:=BP _ h;omega
   omega
  have ahp:∀q,w.heap.size<=q->q<w3.heap.size->¬T2 q:=λq h1 h2 h=>by
   rcases qZ.out _ h with h | h
   ·exact yZ q h1 h2 h
   omega
  have asz:∀q,w.heap.size<=q->q<w3.heap.size->¬T3 q:=λq h1 h2 h=>by
   rcases Gj _ h with h | h
   ·exact ahp q h1 h2 h
   omega
  have amG:∀q,T2 q->T q\/w.heap.size<=q:=λq h=>by
   rcases qZ.out _ h with h | h
   ·rcases fC.out _ h with h | h
    ·exact .inl h
    right;omega
   right;omega
  have asA:∀q,T3 q->T q\/w.heap.size<=q:=λq h=>by
   rcases Gj _ h with h | h
   ·exact amG q h
   right;omega
  have Le:w6.heap[w2.heap.size]?=Zc #[(B1,m1,d1),(B2,m2,d2),be] 171:=(sJ.block _ zO (ahp _ zO zO)).trans ((bg.block _ zO).trans ((uV.out.block _ zO (yZ _ zO zO)).trans H7.out));have ahq:w6.heap[w4.heap.size]?=Zc #[(E1,g1,f1),(E2,g2,f2),D9] 171:=(sJ.block _ zO (λh=>by have:=Q5 _ h;omega)).trans vW.out;have asB:w6.heap[w.heap.size+1]?=Zc #[(),(),false] 171:=(sJ.block _ zO (ahp _ zO zO)).trans ((bg.block _ zO).trans ((uV.out.block _ zO (yZ _ zO zO)).trans HR6.out));have f8:=k8 w6 w4 2 _ _ ahq;have b0:=dJ ahq;obtain⟨w7,JX⟩:=zF (w6.setCell (w4,2) true);have YB:∀k,k≠w4.heap.size->w7.heap[k]?=w6.heap[k]?:=λk hk=>(by rw[<-JX];exact b7 _ _ _ _ hk);have s7:w7.heap.size=w6:=(by rw[<-JX];simp[World.setCell]);have asC:w7.heap[w4.heap.size]?=Zc #[(E1,g1,f1),(E2,g2,f2),true] 171:=(by rw[<-JX,dM ahq];rfl);have NW:=(YB _ zO).trans Le;have asD:=(YB _ zO).trans asB;have y0:=dJ NW;obtain⟨z0,z1,z2⟩:=dJ asC
  have apD:¬T3 w4.heap.size:=λh=>by
   rcases Gj _ h with h | h
   ·have:=Q5 _ h;omega
   omega
  have Z7:gV w7 base T3 bm hd (dB (once r.1).1 (once r.1).2 (once r.1).2) JV rs3:=O9.keep zO λk hk=>YB k (λe=>by subst e;rcases hk with h | h;exact apD h;omega)
  have hSo:iT w7 base (λk=>w3<=k/\¬T3 k/\k<wr) r.2 (B1,m1,d1) (B2,m2,d2):=HS.out.keep λk aN hG=>by
   have dm:¬T2 k:=λh=>by
    rcases qZ.out _ h with h | h
    ·exact hG.2 h
    omega
   have bW:¬T3 k:=λh=>by
    rcases Gj _ h with h | h
    ·exact dm h
    omega
   exact⟨⟨hG.1,bW,aN⟩,(YB k zO).trans ((sJ.block k zO dm).trans ((bg.block k zO).trans (uV.out.block k aN hG.2)))⟩
  have GY:iT w7 base (λk=>wr<=k/\¬T3 k/\k<w4) (once r.1).2 (E1,g1,f1) (E2,g2,f2):=Ld.out.keep λk aN hG=>by
   have bW:¬T3 k:=λh=>by
    rcases Gj _ h with h | h
    ·exact hG.2 h
    omega
   exact⟨⟨hG.1,bW,aN⟩,(YB k zO).trans ((sJ.block k zO hG.2).trans (bg.block k aN))⟩
  have asE:iT w7 base (λk=>wr<=k/\¬T3 k/\k<w4) { (once r.1).2 with empty:=true } (E1,g1,f1) (E2,g2,f2):=⟨GY.f,GY.l,GY.gf,GY.gl,GY.ne⟩
  have amH:=BO base bm T3 hd _ rs3 r.2 { (once r.1).2 with empty:=true } _ _ _ _ JV w7 _ _ Z7 hSo asE (λk h=>h.2.1) (λk h=>h.2.1) (λi hi=>by rw[mf];have:=(QY.out.1.ok.fF.last i hi).2;have:=kV.base;omega)
   ⟨by have:=QY.out.2.fl;omega,by have:=QY.out.2.ll;omega,by have:=jB.fl;show (once r.1).2.first.length<=1000;omega,by have:=jB.ll;show (once r.1).2.last.length<=1000;omega⟩ (NV.out.star kV jB zO)
  rw[pO.out,Bool.and_true] at amH;have aBs:=zH amH
  have lH:Kept T w w7:=by
   rw[<-JX];exact(((((Qh (ai.seq jX)).up rM.out (by rintro q (h | h);exact .inl h;right;omega)).up uV.out (λq h=>by rcases fC.out _ h with h | h;exact .inl h;right;omega)).up (Qh bg (M:=λ_=>False)) (λ_ h=>h.elim)).up sJ amG).setCell (.inr (by show w.heap.size<=w4;omega)) _
  have aBt:=zH lH
  have Xg:Hid (fV p num pl=(dB (dB (once r.1).1 (once r.1).2 (once r.1).2) r.2 { (once r.1).2 with empty:=true },fG r.2 { (once r.1).2 with empty:=true })):=zH (by
   unfold fV rH;rw[D7.out,ZZ.out,JU.out,HZ.out,j5 HZ0.out,j6 yY.out]
   simp only[Int.toNat_natCast,HRJ.out])
  obtain⟨H67,asF,asG,nK⟩:=zJ4 asD asA asz QZ;clear amH hSo GY asE Z7 O9 QZ Gj sJ Le ahq asB NW asD asC yZ ahp asz apD amG asA YB x0 lH kV jB;go_wp2_with fail;refine aBs.out.mono ?_;rintro e w8 ⟨T4,rs4,vf,vl,rfl,Ea,c1',Z8,ck',hS4⟩;obtain⟨y1n,AQ⟩:∃v,(fG r.2 { (once r.1).2 with empty:=true }).first.length=v:=⟨_,rfl⟩;obtain⟨y2n,jW⟩:∃v,(fG r.2 { (once r.1).2 with empty:=true }).last.length=v:=⟨_,rfl⟩;obtain⟨G1,g1',rfl⟩:=hS4.f.form;obtain⟨G2,g2',rfl⟩:=hS4.l.form;rw[AQ,jW] at hS4 ⊢;have EH:w8.heap[w.heap.size+1]?=Zc #[(),(),false] 171:=(ck'.block _ zO (asG.out _ zO zO)).trans H67.out;obtain⟨t0,t1,t2,b0,GZ,ZU,Xa,uC⟩:=zK8 (k8 w8 (w.heap.size+1) 0 _ _ EH) (k8 w8 (w.heap.size+1) 1 _ _ EH) (k8 w8 (w.heap.size+1) 2 _ _ EH) (dJ EH) (zH Ea) (zH c1') (zH Z8) (zH ck');obtain⟨aBu,H68⟩:=zJ2 hS4 EH;clear Ea c1' Z8 ck' hS4 EH AQ jW;go_wp2_with fail;have Q7:=yT (v0:=(G1,y1n,g1')) (v1:=(G2,y2n,g2')) (v2:=be) H68.out;obtain⟨l0,l1,l2⟩:=dJ Q7;refine Qg (v:=.agg #[(G1,y1n,g1'),(G2,y2n,g2'),be]) (by simp[results,results124,go_sem,l0,l1,l2]) rfl ?_;rw[Xg.out];refine EG (B:=w7) (λq h=>ZU.out _ (nK.out _ (UD.out _ (gW.out _ h)))) (λq h=>?_) zO hle (λh=>?_) (aBt.out.up uC.out asF.out) GZ.out aBu.out zO zO (by show (r.2.empty&&true)=be;rw[pO.out,Bool.and_true]) rfl
  ·rcases Xa.out _ h with h | h
   ·exact asF.out _ h
   right;omega
  rcases Xa.out _ h with h | h
  ·exact asG.out _ zO zO h
  omega
 have aBr:(mx== -1)=false:=(by simpa using iY)
 rename World=>wo
 have ZR:=HGF.out;obtain⟨mm,rfl⟩:∃mm:Nat,mx=mm:=⟨mx.toNat,zO⟩;obtain⟨nn,JC⟩:∃nn:Nat,mm=j+nn:=⟨mm - j,zO⟩;have aHm:nn<=20:=zO;have aHn:mm<=20:=zO;have ahr:wrap64 ((mm:Int) - (j:Int))=(nn:Int):=(by rw[CU zO zO];omega);obtain⟨Xh,yY⟩:=zJ2 JC iY;clear iY ZR JC
 have bH:mm*ja p<=lJ p:=by
  rw[Ij,Nat.mul_comm];refine Nat.mul_le_mul_left _ ?_;unfold rep;rw[ZZ.out,JU.out,j5 yY.out];omega
 rw[Xh.out,Nat.add_mul] at bH;have hcO:ja p<=200:=(by have:=xJ p hg;omega);have uU:tu r.1:=HF.out.made D8.1 D8.2 zO;have UC:r.1.length+nn*ja p<=1000:=(by rw[D8.2.len];omega);obtain⟨w4,vV,S4,IX,aX⟩:=af wo (Zc #[(),(),true] 171);have e4:w4.heap.size=wo+1:=(by rw[<-vV];simp);have s3:w3.heap.size<=wo:=lH.size;have s23:w3.heap.size=w2+1:=(by rw[<-vU];simp)
 have yZ:∀q,w.heap.size<=q->q<w3.heap.size->¬T' q:=λq h1 h2 h=>by
  rcases fB _ h with h | h
  ·have:=BP _ h;omega
  omega
 have gX:∀q,q<base->¬T' q:=λq h1 h=>(by have:=(tC.inT q h).1;omega);have asI:∀q,T' q->q<wo.heap.size:=λq h=>(tC.inT q h).2;have Hw:=(aX.block _ (aC uh)).trans uh;have asJ:=(aX.block _ (aC h7)).trans h7;have asK:=(aX.block _ (aC zW)).trans zW;clear s0;obtain⟨z0,z1,z2,z3,z4,z5,z6,z7,z8,z9,nZ,og⟩:=aj Hw;obtain⟨GZ,QY,rM,gW,fC,HS,H74,H64⟩:=zK8 (zH (tC.below aX)) (zH D8) (zH lH) (zH vN) (zH fB) (zH hS) (zH asJ) (zH asK);obtain⟨pO,HRJ,NV,HBX,WU,Ah,oG,HTO⟩:=zJ8 jm hr uU Hw S4 yZ gX asI;obtain⟨jG,HLR⟩:=zJ2 bH UC;clear D8 tC uU lH vN fB hS h7 jm hr uh zW asJ asK Hw S4 yZ gX asI bH UC;go_wp2_with fail
 go_loopw [49] (λsi wr=>∃i:Nat,i<=nn/\si= i/\qL w4 base bm wo T' hd (mY once i r.1 oN) wr)
  (λsi _=>nn - (intOf si).toNat)
 case atStart=>exact⟨0,zO,rfl,T',pv',rs',none,0,0,none,0,0,GZ.out,λ_ h=>h,λ_ h=>.inl h,Kept.refl _ _,WU.out,ax.nil _ _ _ _ _,ax.nil _ _ _ _ _,λj hj=>(by cases hj),λj hj=>(by cases hj),λj hj=>(by cases hj)⟩
 clear q0 z0 z1 z2 z3 z4 z5 z6 z7 z8 z9 nZ og;obtain⟨i,hi,rfl,T5,pv5,rs5,D1,k1,l1,D2,k2,l2,JY,hU1,hU2,YC,h9,hS5⟩:=hrel;have s5:w4.heap.size<=wr:=YC.size;have uh:wr.heap[w.heap.size]?=Zc #[k,j,mm,el,ck,ns,nl,sp,(A1,n1,c1),(A2,n2,c2),pr,(A,n,c)] 29:=(YC.block _ zO (by rintro (h | h);exact Ah.out _ zO zO h;omega)).trans HBX.out;have h7:wr.heap[w2.heap.size]?=Zc #[(B1,m1,d1),(B2,m2,d2),be] 171:=(YC.block _ zO (by rintro (h | h);exact Ah.out _ zO zO h;omega)).trans H74.out;have h6:wr.heap[w.heap.size+1]?=Zc #[(),(),false] 171:=(YC.block _ zO (by rintro (h | h);exact Ah.out _ zO zO h;omega)).trans H64.out;obtain⟨bt,xZ⟩:=zF ((mY once i r.1 oN).2.empty);rw[xZ] at h9;obtain⟨t0,t1,t2⟩:=dJ h9;have s0:=dJ h7;have q0:=aj uh;obtain⟨r5,hr5⟩:=zF (mY once i r.1 oN);have hic:i*ja p<=200:=zT (Nat.mul_le_mul_right _ hi) (by have:=jG.out;omega);have acz:=arx hg hn hcO num r.1 i hic;rw[D7.out,hr5] at acz;rw[hr5] at JY hS5 xZ;have apF:tu r5.1:=NV.out.made acz.1 acz.2 zO;obtain⟨Q8,HR5,YD,ahs,H9,H7,H6,Dh⟩:=zJ8 xZ hr5 acz apF h9 h7 h6 uh;obtain⟨aht,HU1,HU2,vW,Dj⟩:=zJ5 YC hU1 hU2 hS5 JY;clear xZ hr5 acz apF h9 h7 h6 uh YC hU1 hU2 hS5 JY
 have amI:∀q,w.heap.size<=q->q<w4.heap.size->¬T' q->¬T5 q:=λq h1 h2 h3 h=>by
  rcases HU2.out _ h with h | h
  ·exact h3 h
  omega
 have amJ:¬T' wo.heap.size:=λh=>(by have:=HTO.out _ h;omega);have o8:=HM.out.le;by_cases aN:i<nn
 ·have gJ:decide ((i:Int)<(mm:Int) - (j:Int))=true:=(by have:=Xh.out;simp;omega);have oO:(i+1)*ja p<=nn*ja p:=Nat.mul_le_mul_right _ aN;rw[Nat.add_mul,Nat.one_mul] at oO;have aBv:r5.1.length+ja p<=1000:=(by rw[YD.out.2.len];have:=HLR.out;omega);have I5:gV wr.drew base T5 bm hd r5.1 pv5 rs5:=Dj.out.keep (zR _) λ_ _=>rfl
  have Z4:au wr.drew (· <base) (aZ p) [k,j,mm,el,ck,ns,nl,sp,(A1,n1,c1),(A2,n2,c2),pr,(A,n,c)]:=HR.out.keep λb hb=>⟨hb,by
   show wr.heap[b]?=_
   rw[aht.out.block b zO (by rintro (h | h);exact oG.out _ hb h;omega),aX.block b zO,rM.out.block b zO (by rintro (h | h);have:=(HM.out.inT b h).1;omega;omega),(ai.seq jX).block b zO]⟩
  have Xe:Hid (Cl 167 #[(bm,0),.agg #[k,j,mm,el,ck,ns,nl,sp,(A1,n1,c1),(A2,n2,c2),pr,(A,n,c)],num] wr.drew (wP wr.drew base bm T5 hd (once r5.1))):=zH (by
   have:=HO.out num _ wr.drew base bm T5 hd r5.1 pv5 rs5 I5 Z4 ahs.out aBv lQ
   rwa [D7.out] at this)
  have EY:=zH (azn (W:=wr.drew) H9.out Dh.out);clear I5 Z4;go_wp2_with fail;refine ah.start (λW=>W.cell? wo=(D1,k1,l1)/\W.cell? (wo,1)=(D2,k2,l2)/\W.cell? (wo,2)=bt/\W.cell? w=k/\W.cell? (w,1)=j/\W.cell? (w,2)=mm/\W.cell? (w,3)=el/\W.cell? (w,4)=ck/\W.cell? (w,5)=ns/\W.cell? (w,6)=nl/\W.cell? (w,7)=sp/\W.cell? (w,8)=(A1,n1,c1)/\W.cell? (w,9)=(A2,n2,c2)/\W.cell? (w,10)=pr/\W.cell? (w,11)=(A,n,c)) 7 zK ?_;have hHeld:=EY.out;refine ah.tk 0 hHeld ?_;refine ah.tk 1 hHeld ?_;refine ah.tk 2 hHeld ?_;refine ah.tk 3 hHeld ?_;refine ah.tk 5 hHeld ?_;refine ah.on 4 λK hK=>?_;go_simp;refine Xe.out.mono ?_;rintro e w' ⟨T6,pv6,rs6,vf,vl,rfl,Z9,CB,BJ,uA,hS6⟩;obtain⟨E1,f1,rfl⟩:=hS6.f.form;obtain⟨E2,f2,rfl⟩:=hS6.l.form;have s6:wr.heap.size<=w':=uA.size;have GV:¬T5 wo.heap.size:=amI _ zO zO amJ;have Gi:¬T5 w.heap.size:=amI _ zO zO (Ah.out _ zO zO);have h9':=(uA.block _ (aC H9.out) GV).trans H9.out;have Hw:=(uA.block _ (aC Dh.out) Gi).trans Dh.out;obtain⟨x0,p0,acw,H9',Eb,UD,qZ,uV⟩:=zK8 (dJ h9') (aj Hw) (zH (azn h9' Hw)) (zH h9') (zH Z9) (zH CB) (zH BJ) (zH uA);have yX:=zH hS6;clear h9' Hw Z9 CB BJ uA hS6 hHeld;go_wp2_with fail;refine di hK (λ_=>acw.out) ?_;clear hK K;refine ah.on 6 λK hK=>?_;go_simp;have kV:Made r5.1.length r5.1 (once r5.1) (rW p num):=(by have:=wK p hg hn num r5.1;rwa [D7.out] at this);have jB:Bd r5.1.length (5200*(dh p - 1)) (ja p) (once r5.1):=(by have:=Ik p hg hn hcO num r5.1;rwa [D7.out] at this);have GY:iT w' base (λk=>w4<=k/\¬T5 k/\k<wr) r5.2 (D1,k1,l1) (D2,k2,l2):=vW.out.keep λk aN hG=>⟨⟨hG.1,hG.2,aN⟩,uV.out.block k aN hG.2⟩
  have xu:=BO base bm T6 hd (once r5.1).1 rs6 (once r5.1).2 r5.2 _ _ _ _ pv6 w' _ _ Eb.out yX.out GY (λk h=>h.2)
   (λk h e=>by
     rcases qZ.out k e with e | e
     ·exact h.2.1 e
     have:wr<=k:=e
     omega)
   (λi hi=>(kV.ok.fF.last i hi).2)
   ⟨by have:=jB.fl;omega,by have:=jB.ll;omega,by have:=YD.out.2.fl;omega,by have:=YD.out.2.ll;omega⟩
   (ahs.out.made kV jB zO)
  rw[Q8.out] at xu;have Xf:=zH xu;clear xu GY;refine Xf.out.mono ?_;rintro e w'' ⟨T7,rs7,vf,vl,rfl,Z7,QZ,Gj,sJ,hS7⟩;obtain⟨G1,g1,rfl⟩:=hS7.f.form;obtain⟨G2,g2,rfl⟩:=hS7.l.form
  have hn6:∀q,q<wr.heap.size->¬T5 q->¬T6 q:=λq h1 h2 h=>by
   rcases qZ.out _ h with h | h
   ·exact h2 h
   have h':wr.heap.size<=q:=h;omega
  have YE:=(sJ.block _ (aC H9'.out) (hn6 _ zO GV)).trans H9'.out;have Q3:=(sJ.block _ zO (hn6 _ zO Gi)).trans ((uV.out.block _ (aC Dh.out) Gi).trans Dh.out);obtain⟨y0,u0,f0,f1',f2',Q4,aBw,Q9⟩:=zK8 (dJ YE) (aj Q3) (k8 w'' wo 0 _ _ YE) (k8 w'' wo 1 _ _ YE) (k8 w'' wo 2 _ _ YE) (zH (azn YE Q3)) (zH YE) (zH Z7);obtain⟨nK,DU,Z5,G5⟩:=zJ4 QZ Gj sJ hS7;clear YE Q3 Z7 QZ Gj sJ hS7 hn6;go_wp2_with fail;refine di hK (λ_=>Q4.out) ?_;clear hK K;refine ah.oe 7 ?_;refine ah.dn ?_;go_wp2_with fail;go_roundw
  case rel=>
   refine⟨i+1,zO,by go_num,?_⟩;have Di:mY once (i+1) r.1 oN=(dB (once r5.1).1 (once r5.1).2 r5.2,{ fG (once r5.1).2 r5.2 with empty:=true }):=(by rw[ZW,HR5.out]);rw[Di];have bZ:=qL.step (r:=r5) (r2:=(dB (once r5.1).1 (once r5.1).2 r5.2,fG (once r5.1).2 r5.2)) (t7:=wo) HU1.out HU2.out aht.out zO amJ zO UD.out qZ.out (show Kept T5 wr w' from ⟨uV.out.os,uV.out.tape,uV.out.output,uV.out.size,uV.out.block⟩) nK.out DU.out Z5.out Q9.out aBw.out G5.out;rw[show (dB (once r5.1).1 (once r5.1).2 r5.2,fG (once r5.1).2 r5.2).2.empty=((once r5.1).2.empty&&bt) from by rw[<-Q8.out];rfl] at bZ;exact bZ.last amJ zO zO
  simp[intOf];omega
 obtain rfl:i=nn:=zO;have gJ:decide ((i:Int)<(mm:Int) - (j:Int))=false:=(by have:=Xh.out;simp;omega)
 have hSo:iT wr base (λk=>w3<=k/\¬T5 k/\k<wo) r.2 (B1,m1,d1) (B2,m2,d2):=HS.out.keep λk aN hG=>by
  have lq:¬T5 k:=λh=>by
   rcases HU2.out _ h with h | h
   ·exact hG.2 h
   omega
  exact⟨⟨hG.1,lq,aN⟩,(aht.out.block k zO (by rintro (h | h);exact hG.2 h;omega)).trans (aX.block k aN)⟩
 have xu:=BO base bm T5 hd r5.1 rs5 r.2 r5.2 _ _ _ _ pv5 wr _ _ Dj.out hSo vW.out (λk h=>h.2.1) (λk h=>h.2)
  (λi hi=>by have:=(QY.out.1.ok.fF.last i hi).2;have:=YD.out.1.base;omega)
  ⟨by have:=QY.out.2.fl;have:=jG.out;omega,by have:=QY.out.2.ll;have:=jG.out;omega,by have:=YD.out.2.fl;omega,by have:=YD.out.2.ll;omega⟩ ahs.out
 rw[pO.out,Q8.out] at xu;obtain⟨bz,mr⟩:=zF ((be&&bt));rw[mr] at xu;obtain⟨FO,Xf⟩:=zJ2 mr xu
 have asP:∀q,T5 q->T q\/w.heap.size<=q:=λq h=>by
  rcases HU2.out _ h with h | h
  ·rcases fC.out _ h with h | h
   ·exact .inl h
   right;omega
  right;omega
 have HTQ:=zH asP
 have lH:Kept T w wr:=((((Qh (ai.seq jX)).up rM.out (by rintro q (h | h);exact .inl h;right;omega)).up (Qh aX (M:=λ_=>False)) (λ_ h=>h.elim)).up aht.out (by
  rintro q (h | h)
  ·rcases fC.out _ h with h | h
   ·exact .inl h
   right;omega
  right;omega))
 have aBx:=zH lH
 have Xg:Hid (fV p num pl=(dB r5.1 r.2 r5.2,fG r.2 r5.2)):=zH (by
  have hto:((mm:Int) - (j:Int)).toNat=i:=(by have:=Xh.out;omega);unfold fV rH;rw[D7.out,ZZ.out,JU.out,HZ.out,j5 HZ0.out,j5 yY.out]
  simp only[Int.toNat_natCast,HRJ.out,hto,HR5.out])
 have HN6:Hid (¬T5 (w.heap.size+1)):=zH (amI _ zO zO (Ah.out _ zO zO));clear xu hSo mr asP lH;go_wp2_with fail;refine Xf.out.mono ?_;rintro e w8 ⟨T8,rs8,vf,vl,rfl,hM8,c1',Z8,ck',hS8⟩;obtain⟨y1n,AQ⟩:=zF ((fG r.2 r5.2).first.length);obtain⟨y2n,jW⟩:=zF ((fG r.2 r5.2).last.length);obtain⟨G1,g1',rfl⟩:=hS8.f.form;obtain⟨G2,g2',rfl⟩:=hS8.l.form;rw[AQ,jW] at hS8 ⊢;have EH:w8.heap[w.heap.size+1]?=Zc #[(),(),false] 171:=(ck'.block _ zO HN6.out).trans H6.out;obtain⟨t0,t1,t2,b0,HM8,ZU,Xa,uC⟩:=zK8 (k8 w8 (w.heap.size+1) 0 _ _ EH) (k8 w8 (w.heap.size+1) 1 _ _ EH) (k8 w8 (w.heap.size+1) 2 _ _ EH) (dJ EH) (zH hM8) (zH c1') (zH Z8) (zH ck');obtain⟨HS8,H68⟩:=zJ2 hS8 EH;clear hM8 c1' Z8 ck' hS8 EH AQ jW;go_wp2_with fail;have Q7:=yT (v0:=(G1,y1n,g1')) (v1:=(G2,y2n,g2')) (v2:=bz) H68.out;obtain⟨l0,l1,l2⟩:=dJ Q7;refine Qg (v:=.agg #[(G1,y1n,g1'),(G2,y2n,g2'),bz]) (by simp[results,results124,go_sem,l0,l1,l2]) rfl ?_;rw[Xg.out];refine EG (B:=wr) (λq h=>ZU.out _ (HU1.out _ (gW.out _ h))) (λq h=>?_) zO hle (λh=>?_) (aBx.out.up uC.out HTQ.out) HM8.out HS8.out zO zO (by show (r.2.empty&&r5.2.empty)=bz;rw[pO.out,Q8.out,FO.out]) rfl
 ·rcases Xa.out _ h with h | h
  ·exact HTQ.out _ h
  right;omega
 rcases Xa.out _ h with h | h
 ·exact HN6.out h
 omega
