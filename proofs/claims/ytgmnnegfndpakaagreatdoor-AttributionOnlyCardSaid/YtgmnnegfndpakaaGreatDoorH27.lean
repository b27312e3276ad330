import Derived.Test.YtgmnnegfndpakaaGreatDoorH25
set_option maxHeartbeats 20000000
set_option maxRecDepth 100000
namespace Go.Proofs.YtgmnnegfndpakaaGreatDoor
open Go.RowKit Go.Proofs.Tryz
variable{w:World}{B bm b o:Nat}{m:eQ}{F:Nat->Prop}{v0 v1 v2 v3 v4 v5 v6 v7 v8 v9 v10 v11:Value}{p:Prop}
section
attribute [local go_sem] Oper.semAt_some
theorem RU(bm s:Nat)(w:World):
 Cl 82 #[(bm,0),s] w λe w'=>e= .returned (.func (.func 145) #[] #[(w,0),(w.heap.size+1,0)])/\w'.heap[w.heap.size]?=Zc #[(bm,0)] 93/\w'.heap[w.heap.size+1]?=Zc #[s] 3/\w'=w.heap.size+2/\Bw w w':=by
 obtain⟨w1,bI,S1,S2,nC,ai⟩:=ed w (Zc #[(bm,0)] 93) (Zc #[s] 3);have e1:w1=w.heap.size+2:=(by rw[<-bI];simp);obtain⟨aQ,gY⟩:=zJ2 S1 S2;clear S1 S2;go_enter func82,ntmps82;go_wp2_with fail;go_ret;exact⟨rfl,aQ,gY,e1,ai⟩
def Gs(w:World)(F:Nat->Prop)(bm:Nat)(m:eQ):Prop:=
 ∃eA en ec pA pn pc fA fn fc mb aA an ac,w.heap[bm]?=some (.cells #[.slice eA en ec,.slice pA pn pc,.slice fA fn fc,.map (some mb),m.empty,.slice aA an ac] 169)/\F bm/\F mb/\
  bM w F 1 (m.elems.map nU) eA en/\bM w F 14 (m.places.map Jb) pA pn/\bM w F 1 (m.first.map Dl) fA fn/\gQ w mb vM bV (xx m.last)/\bM w F 12 (m.all.map aZ) aA an/\
  (m.all=[]↔aA=none)/\en<6000000000000/\pn<6000000000000/\fn<6000000000000/\an<6000000000000
theorem mO.f(h:mO w B bm m):Gs w (· <B) bm m:=h
theorem Gs.r(h:Gs w (· <B) bm m):mO w B bm m:=h
theorem Gs.keep{w':World}{F':Nat->Prop}(h:Gs w F bm m)(hF:∀b,F b->F' b/\w'.heap[b]?=w.heap[b]?):Gs w' F' bm m:=by
 obtain⟨eA,en,ec,pA,pn,pc,fA,fn,fc,mb,aA,an,ac,h1,h2,h3,h4,h5,h6,h7,h8,h9⟩:=h;exact⟨eA,en,ec,pA,pn,pc,fA,fn,fc,mb,aA,an,ac,(hF bm h2).2.trans h1,(hF bm h2).1,(hF mb h3).1,h4.keep hF,h5.keep hF,h6.keep hF,h7.keep (hF mb h3).2,h8.keep hF,h9⟩
theorem XG{l:List aU}{off:Nat}(h:bK w F 14 (l.map Jb) b off){i:Nat}{q:aU}(hq:l[i]?=q):
 ∃v0 v1 v2 v3 v4 v5 v6 v7 v8 v9 v10 v11 xA xn xc,rdC w b (off+i*14)=[v0,v1,v2,v3,v4,v5,v6,v7,v8,v9,v10,v11]/\au w F (aZ q.leaf) [v0,v1,v2,v3,v4,v5,v6,v7,v8,v9,v10,v11]/\xn<6000000000000/\aY w F 1 aV q.follow xA xn/\cu w b (off+i*14) [v0,v1,v2,v3,v4,v5,v6,v7,v8,v9,v10,v11,q.num,.slice xA xn xc]:=by
 obtain⟨cs,h1,h2⟩:=h.get i (Jb q) (by rw[z17,hq];rfl);obtain⟨lc,xA,xn,xc,rfl,hl,h3,h4,h5⟩:=akO h2;obtain⟨k,mn,mx,el,ck,ns,nl,s,A1,n1,c1,A2,n2,c2,pr,A,n,c,rfl,-⟩:=aW h3;exact⟨_,_,_,_,_,_,_,_,_,_,_,_,xA,xn,xc,akN h1 rfl,h3,h4,adk h5,h1⟩
theorem YQ{u n:Value}(h:cu w b o [v0,v1,v2,v3,v4,v5,v6,v7,v8,v9,v10,v11,n,u]):w.cell? (b,o)=v0/\w.cell? (b,o+1)=v1/\w.cell? (b,o+2)=v2/\w.cell? (b,o+3)=v3/\w.cell? (b,o+4)=v4/\w.cell? (b,o+5)=v5/\w.cell? (b,o+6)=v6/\w.cell? (b,o+7)=v7/\w.cell? (b,o+8)=v8/\w.cell? (b,o+9)=v9/\w.cell? (b,o+10)=v10/\w.cell? (b,o+11)=v11/\w.cell? (b,o+12)=n/\w.cell? (b,o+13)=u:=
 ⟨h 0 _ rfl,h 1 _ rfl,h 2 _ rfl,h 3 _ rfl,h 4 _ rfl,h 5 _ rfl,h 6 _ rfl,h 7 _ rfl,h 8 _ rfl,h 9 _ rfl,h 10 _ rfl,h 11 _ rfl,h 12 _ rfl,h 13 _ rfl⟩
theorem azi (h:p:=by
 have hx:=Je rfl;have HXX:=zH hx;clear hx Jd Je;gi_wp2
 first | go_end0 | (refine Qg (results_none rfl _ _ _) rfl ?_)
 exact⟨⟨_,rfl⟩,.inr ⟨_,XB,HXX⟩⟩):p:=h
theorem awk (h:p:=by
 obtain⟨hJ3,bW⟩:=Jd rfl;obtain⟨HJ3,Dn⟩:=zJ2 hJ3 bW;clear hJ3 bW Jd Je;gi_wp2;go_roundw
 case rel=>exact⟨k+1,zO,by go_num,by rw[RF.out];exact HJ3,zT o8 Dn.size,pW.trans (show Kept _ wr w3 from ⟨Dn.os,Dn.tape,Dn.output,Dn.size,Dn.block⟩)⟩
 simp[intOf];omega):p:=h
theorem aav(m:eQ)(F:Nat->Prop)(bm g1 g2 s:Nat)(w0:World)(X:Nat->Prop)(hM:Gs w0 F bm m)(fQ:mQ m)(hB:∀q,F q->q<w0.heap.size)(h1:w0.heap[g1]?=Zc #[(bm,0)] 93)(h2:w0.heap[g2]?=Zc #[s] 3)(hX:∀q,X q->¬F q/\g1≠q/\g2≠q)(dW:m.all=[])(hs:s<=m.places.length):
 ∃rl:List SC,rl.map (·.1)=gK m s/\(∀x∈rl,au w0 F (aZ x.1.leaf) x.2)/\yF prog 145 #[(g1,0),(g2,0)] EK X (· =rl) (· <+:rl) w0:=by
 obtain⟨eA,en,ec,pA,pn,pU,fA,fn,fc,mb,aA,an,ac,uD,GH,hmB,hE,hP,hF,BB,hA,EI,jR,Py,IU,han⟩:=hM;have haA:aA=none:=EI.1 dW;subst haA;have Az:=hP.1;rw[List.length_map] at Az
 obtain⟨pb,po,hpA,hpb,uq⟩:∃pb po,(0<pn->pA=some ⟨pb,po,none⟩)/\(0<pn->F pb)/\(0<pn->bK w0 F 14 (m.places.map Jb) pb po):=by
  rcases Nat.eq_zero_or_pos pn with h | h
  ·exact⟨0,0,zO,zO,zO⟩
  obtain⟨b,off,h1,h2,h3⟩:=hP.2 h;exact⟨b,off,λ_=>h1,λ_=>h2,λ_=>h3⟩
 obtain⟨cells,hce⟩:∃cells:Nat->List Value,∀i,cells i=rdC w0 pb (po+i*14):=⟨_,λ_=>rfl⟩;have bZ:gK m s=(ku m s).flatMap (CP m.places):=(by unfold gK;rw[dW];rfl);refine⟨zX cells m.places (ku m s),by rw[agt,bZ],?_,?_⟩
 ·refine arG cells m.places _ λi q hq=>?_;have kD:0<pn:=(by have:=(List.getElem?_eq_some_iff.1 hq).1;omega);obtain⟨v0,v1,v2,v3,v4,v5,v6,v7,v8,v9,v10,v11,xA,xn,xc,hrd,bH,-⟩:=XG (uq kD) hq;show au w0 F (aZ q.leaf) (cells i);rw[hce,hrd];exact bH
 intro n l J Jx W hk h3 hY hJ;obtain⟨HY,H1,HX,jr,Jj,Xk,UF⟩:=zJ7 hY h3 hX fQ hce Az uq;have HB':Hid (∀q,F q->q<W.heap.size):=zH λq h=>d4 (hB q h) hk.size;have GR:∀q,F q->W.heap[q]?=w0.heap[q]?:=λq h=>hk.block q (hB q h) (λe=>(hX q e).1 h);have S1:=bF h1 hk (λe=>(hX _ e).2.1 rfl);have S2:=bF h2 hk (λe=>(hX _ e).2.2 rfl);have mV:W.heap[bm]?=Zc #[(eA,en,ec),(pA,pn,pU),(fA,fn,fc),.map (some mb),m.empty,.slice none an ac] 169:=(GR bm GH).trans uD;obtain⟨lV,qo,c1,c2⟩:=zK4 (aC S1) (aC S2) (aO S1) (aO S2);obtain⟨m0,m1,m2,m3,m4,m5⟩:=uK mV;obtain⟨HW0,XH,xC,HB0,dD⟩:=zK5 (zH GR) (zH S1) (zH S2) (zH uD) (amV an ac);have HFI:Hid (aY w0 F 1 aV m.first fA fn):=zH (adk hF);have Gl:=zH dW;clear uq hY h3 hX fQ hce Az hk GR S1 S2 uD mV h1 h2 hE hP hF BB hA EI bZ dW;refine callsIn_of_wp func145 rfl trivial ?_ rfl;simp only[ntmps145,YV,List.length_cons,z24,Nat.reduceAdd,Nat.reduceSub,Ze,Zd,List.push_toArray,ZD,d6,m7];by_cases hs0:s=0
 ·subst hs0;have hd:decide ((0:Int)<0)=false:=rfl;obtain⟨nA,nn,nc,hN⟩:∃nA nn nc,fA=nA/\fn=nn/\fc=nc:=⟨_,_,_,rfl,rfl,rfl⟩;obtain⟨rfl,rfl,rfl⟩:=hN;have Ky:Hid (aY w0 F 1 aV (ku m 0) fA fn):=zH (by unfold ku;rw[j6 rfl];exact HFI);gi_wp2
  gi_loopw [66] (λs66 wr=>∃k:Nat,k<=fn/\s66= k/\J (zX cells m.places ((ku m 0).take k)) wr/\W.heap.size<=wr/\Kept (λq=>X q\/W<=q) W wr)
   (λs66 _=>fn - (intOf s66).toNat)
  case atStart=>exact⟨0,zO,rfl,(by simpa[zX] using hJ),zR _,(Kept.refl _ _)⟩
  obtain⟨k,hk,rfl,zh,o8,eF⟩:=hrel;have iO:∀q,F q->wr.heap[q]?=w0.heap[q]?:=λq h=>(eF.block q (HB' q h) (by rintro (h1 | h1);exact(HX q h1).1 h;have:=HB' q h;omega)).trans (HW0 q h);have S1:=bF XH eF (by rintro (h | h);exact(HX _ h).2.1 rfl;omega);have uD:wr.heap[bm]?=Zc #[(eA,en,ec),(pA,pn,pU),(fA,fn,fc),.map (some mb),m.empty,.slice none an ac] 169:=(iO bm GH).trans HB0;clear c1 c2 m0 m1 m2 m3 m4 m5;have c1:=aO S1;obtain⟨m0,m1,m2,m3,m4,m5⟩:=uK uD;by_cases aN:k<fn
  ·have jV:=zT1 (k<fn);have CE:aY wr F 1 aV (ku m 0) fA fn:=Ky.keep λq h=>⟨h,iO q h⟩;obtain⟨b,off,i,HI,jw,dO⟩:=CE.nat aN fc;have jU:i<m.places.length:=agu jr i (SK HI);have kD:0<pn:=(by rw[Xk.out];omega);rw[hpA kD] at m1;obtain⟨q,hq⟩:∃q,m.places[i]?=some q:=⟨_,Jl jU⟩;obtain⟨v0,v1,v2,v3,v4,v5,v6,v7,v8,v9,v10,v11,xA,xn,xc,hrd,bH,hxn,-,GM⟩:=XG (UF kD) hq;obtain⟨z0,z1,z2,z3,z4,z5,z6,z7,z8,z9,nZ,og,zn,zf⟩:=YQ (w:=wr) (GM.keep (iO pb (hpb kD)));have aBX:∀V,(Instr.indexAt 167 (pb,po,pn,pU) i).run prog V= .ok (pb,po+i*14) V:=dN 167 195 14 underlying167 (λw=>by kernel_rfl) rfl pn pU i (by rw[Xk.out];exact jU);have hJd:=H1 _ wr wr.drew zh o8 ⟨rfl,rfl,rfl,zR _,λ_ _=>rfl⟩;have Di:zX cells m.places ((ku m 0).take (k+1))=zX cells m.places ((ku m 0).take k)++[(⟨i+1,q.num,q.leaf⟩,cells i)]:=adl cells HI hq;have hci:cells i=[v0,v1,v2,v3,v4,v5,v6,v7,v8,v9,v10,v11]:=(Jj i).trans hrd;rw[hci] at Di
   have mM:zX cells m.places ((ku m 0).take k)++[(⟨i+1,q.num,q.leaf⟩,[v0,v1,v2,v3,v4,v5,v6,v7,v8,v9,v10,v11])]<+:zX cells m.places (ku m 0):=by
    rw[<-Di];unfold zX
    conv=>rhs;rw[<-List.take_append_drop (k+1) (ku m 0),l6]
    exact List.prefix_append _ _
   obtain⟨f2,t2,a2,b2,jW,vI⟩:=HY (n - 1) _ _ wr.drew hJd mM o8;have lQ:=jr.num i q hq;have hwi:IntKind.i64.wrap ((i:Int)+1)=(i:Int)+1:=(by have:=jr.len.1;rw[IntKind.wrap_i64];omega);simp only[EK,m7,d6,Int.natCast_add,Int.cast_ofNat_Int] at jW;obtain⟨UM,pW,RF,XB⟩:=zJ4 zh eF Di mM;obtain⟨num,rY⟩:=zF q.num;rw[rY] at zn jW;clear zh eF Di mM hJd CE hrd bH GM hci iO uD S1 rY lQ;have l9:prog.follows .mixedOrders=true:=zS2;gi_wp2;have hHeld:wr.drew.cell? g1=(bm,0)/\wr.drew.cell? (bm,1)=(pb,po,pn,pU)/\wr.drew.cell? (pb,po+i*14)=v0/\wr.drew.cell? (pb,po+i*14+1)=v1/\wr.drew.cell? (pb,po+i*14+2)=v2/\wr.drew.cell? (pb,po+i*14+3)=v3/\wr.drew.cell? (pb,po+i*14+4)=v4/\wr.drew.cell? (pb,po+i*14+5)=v5/\wr.drew.cell? (pb,po+i*14+6)=v6/\wr.drew.cell? (pb,po+i*14+7)=v7/\wr.drew.cell? (pb,po+i*14+8)=v8/\wr.drew.cell? (pb,po+i*14+9)=v9/\wr.drew.cell? (pb,po+i*14+10)=v10/\wr.drew.cell? (pb,po+i*14+11)=v11/\wr.drew.cell? (pb,po+i*14+12)=num:=⟨c1,m1,z0,z1,z2,z3,z4,z5,z6,z7,z8,z9,nZ,og,zn⟩;refine aP.start (λW=>W.cell? g1=(bm,0)/\W.cell? (bm,1)=(pb,po,pn,pU)/\W.cell? (pb,po+i*14)=v0/\W.cell? (pb,po+i*14+1)=v1/\W.cell? (pb,po+i*14+2)=v2/\W.cell? (pb,po+i*14+3)=v3/\W.cell? (pb,po+i*14+4)=v4/\W.cell? (pb,po+i*14+5)=v5/\W.cell? (pb,po+i*14+6)=v6/\W.cell? (pb,po+i*14+7)=v7/\W.cell? (pb,po+i*14+8)=v8/\W.cell? (pb,po+i*14+9)=v9/\W.cell? (pb,po+i*14+10)=v10/\W.cell? (pb,po+i*14+11)=v11/\W.cell? (pb,po+i*14+12)=num) 20 zK ?_;refine aP.tk 0 20 [] hHeld ?_;refine aP.tk 1 2 [19,20] hHeld ?_;refine aP.tk 2 19 [20] hHeld ?_;refine aP.tk 3 4 [5,6,8,9,10,19,20] hHeld ?_;refine aP.tk 4 5 [6,8,9,10,19,20] hHeld ?_;refine aP.tk 5 6 [8,9,10,19,20] hHeld ?_;refine aP.tk 6 8 [9,10,19,20] hHeld ?_;refine aP.tk 7 8 [9,10,19,20] hHeld ?_;refine aP.tk 8 9 [10,19,20] hHeld ?_;refine aP.tk 9 10 [19,20] hHeld ?_;refine aP.tk 10 19 [20] hHeld ?_;refine aP.tk 11 12 [13,14,16,17,18,19,20] hHeld ?_;refine aP.tk 12 13 [14,16,17,18,19,20] hHeld ?_;refine aP.tk 13 14 [16,17,18,19,20] hHeld ?_;refine aP.tk 14 16 [17,18,19,20] hHeld ?_;refine aP.tk 15 16 [17,18,19,20] hHeld ?_;refine aP.tk 16 17 [18,19,20] hHeld ?_;refine aP.tk 17 18 [19,20] hHeld ?_;refine aP.tk 18 19 [20] hHeld ?_;refine aP.tk 19 20 [] hHeld ?_;refine aP.on 20 λK hK=>?_;go_simp;refine⟨(λh=>by cases h),(vI.mono (λe B h=>Hy h)).mono ?_⟩;rintro e w3 ⟨v,rfl,Jd,Je⟩;refine iW hK ?_;clear hK K vI jW hHeld;(try simp only[Act.put,dG,dH,dI]);refine aP.oe 21 ?_;refine aP.dn ?_;clear c1 m0 m1 m2 m3 m4 m5 z0 z1 z2 z3 z4 z5 z6 z7 z8 z9 nZ og zn zf jw;cases v
   ·exact azi
   exact awk
  obtain rfl:k=fn:=zO;have jV:=zT2 (k<k);have jo:(ku m 0).take k=ku m 0:=l8 (by rw[<-Ky.1];exact zR _);rw[jo] at zh;have UM:=zH zh;clear zh jo;gi_wp2
  go_end0
  exact⟨⟨_,rfl⟩,.inl ⟨_,rfl,UM⟩⟩
 obtain⟨s,rfl⟩:∃s1,s=s1+1:=⟨s - 1,zO⟩;have kD:0<pn:=(by rw[Xk.out];omega);rw[hpA kD] at m1;have XI:s<m.places.length:=zO;have aEa:=jr.len.1;obtain⟨qs,hqs⟩:∃q,m.places[s]?=some q:=⟨_,Jl XI⟩;obtain⟨v0,v1,v2,v3,v4,v5,v6,v7,v8,v9,v10,v11,xA,xn,xc,-,-,aIm,aI,GM⟩:=XG (UF kD) hqs;obtain⟨-,-,-,-,-,-,-,-,-,-,-,-,-,zf⟩:=YQ (w:=W) (GM.keep (HW0 pb (hpb kD)));have aBY:∀V,(Instr.indexAt 167 (pb,po,pn,pU) s).run prog V= .ok (pb,po+s*14) V:=dN 167 195 14 underlying167 (λw=>by kernel_rfl) rfl pn pU s (by rw[Xk.out];exact XI)
 have Ky:Hid (aY w0 F 1 aV (ku m (s+1)) xA xn):=zH (by
  have hn:ku m (s+1)=qs.follow:=(by unfold ku;rw[j5 (Nat.succ_ne_zero s),Nat.add_sub_cancel,hqs])
  rw[hn];exact aI)
 have hws:IntKind.i64.wrap (s:Int)=(s:Int):=zS3;have hd:decide ((0:Int)<(s:Int)+1)=true:=decide_eq_true zO;have l9:prog.follows .mixedOrders=true:=zS2;have Z8:W.cell? g2=((s:Int)+1:Int):=c2;clear c2 GM aI;have c2:=Z8;clear Z8;gi_wp2;have hHeld:W.drew.cell? g1=(bm,0)/\W.drew.cell? (bm,1)=(pb,po,pn,pU)/\W.drew.cell? g2=((s:Int)+1:Int)/\W.drew.cell? (pb,po+s*14+13)=(xA,xn,xc):=⟨c1,m1,c2,zf⟩;refine aP.start (λW=>W.cell? g1=(bm,0)/\W.cell? (bm,1)=(pb,po,pn,pU)/\W.cell? g2=((s:Int)+1:Int)/\W.cell? (pb,po+s*14+13)=(xA,xn,xc)) 9 zK ?_;refine aP.tk 0 9 [] hHeld ?_;refine aP.tk 1 9 [] hHeld ?_;refine aP.tk 2 9 [] hHeld ?_;refine aP.tk 3 9 [] hHeld ?_;refine aP.tk 4 9 [] hHeld ?_;refine aP.tk 5 9 [] hHeld ?_;refine aP.tk 6 9 [] hHeld ?_;refine aP.tk 7 9 [] hHeld ?_;refine aP.tk 8 9 [] hHeld ?_;refine aP.oe 9 ?_;clear hHeld;refine aP.dn ?_;have hJW:=H1 _ W W.drew hJ (zR _) ⟨rfl,rfl,rfl,zR _,λ_ _=>rfl⟩;have hKW:Kept (λq=>X q\/W<=q) W W.drew:=(Kept.refl _ _).drew;clear aBY zf hws;gi_wp2
 gi_loopw [66] (λs66 wr=>∃k:Nat,k<=xn/\s66= k/\J (zX cells m.places ((ku m (s+1)).take k)) wr/\W.heap.size<=wr/\Kept (λq=>X q\/W<=q) W wr)
  (λs66 _=>xn - (intOf s66).toNat)
 case atStart=>exact⟨0,zO,rfl,(by simpa[zX] using hJW),zR _,hKW⟩
 obtain⟨k,hk,rfl,zh,o8,eF⟩:=hrel;have iO:∀q,F q->wr.heap[q]?=w0.heap[q]?:=λq h=>(eF.block q (HB' q h) (by rintro (h1 | h1);exact(HX q h1).1 h;have:=HB' q h;omega)).trans (HW0 q h);have S1:=bF XH eF (by rintro (h | h);exact(HX _ h).2.1 rfl;omega);have uD:wr.heap[bm]?=Zc #[(eA,en,ec),(pA,pn,pU),(fA,fn,fc),.map (some mb),m.empty,.slice none an ac] 169:=(iO bm GH).trans HB0;clear c1 c2 m0 m1 m2 m3 m4 m5;have c1:=aO S1;obtain⟨m0,m1,m2,m3,m4,m5⟩:=uK uD;by_cases aN:k<xn
 ·have jV:=zT1 (k<xn);have CE:aY wr F 1 aV (ku m (s+1)) xA xn:=Ky.keep λq h=>⟨h,iO q h⟩;obtain⟨b,off,i,HI,jw,dO⟩:=CE.nat aN xc;have jU:i<m.places.length:=agu jr i (SK HI);have kD:0<pn:=(by rw[Xk.out];omega);rw[hpA kD] at m1;obtain⟨q,hq⟩:∃q,m.places[i]?=some q:=⟨_,Jl jU⟩;obtain⟨v0,v1,v2,v3,v4,v5,v6,v7,v8,v9,v10,v11,yA,yn,yc,hrd,bH,hxn,-,GM⟩:=XG (UF kD) hq;obtain⟨z0,z1,z2,z3,z4,z5,z6,z7,z8,z9,nZ,og,zn,zf⟩:=YQ (w:=wr) (GM.keep (iO pb (hpb kD)));have aBX:∀V,(Instr.indexAt 167 (pb,po,pn,pU) i).run prog V= .ok (pb,po+i*14) V:=dN 167 195 14 underlying167 (λw=>by kernel_rfl) rfl pn pU i (by rw[Xk.out];exact jU);have hJd:=H1 _ wr wr.drew zh o8 ⟨rfl,rfl,rfl,zR _,λ_ _=>rfl⟩;have Di:zX cells m.places ((ku m (s+1)).take (k+1))=zX cells m.places ((ku m (s+1)).take k)++[(⟨i+1,q.num,q.leaf⟩,cells i)]:=adl cells HI hq;have hci:cells i=[v0,v1,v2,v3,v4,v5,v6,v7,v8,v9,v10,v11]:=(Jj i).trans hrd;rw[hci] at Di
  have mM:zX cells m.places ((ku m (s+1)).take k)++[(⟨i+1,q.num,q.leaf⟩,[v0,v1,v2,v3,v4,v5,v6,v7,v8,v9,v10,v11])]<+:zX cells m.places (ku m (s+1)):=by
   rw[<-Di];unfold zX
   conv=>rhs;rw[<-List.take_append_drop (k+1) (ku m (s+1)),l6]
   exact List.prefix_append _ _
  obtain⟨f2,t2,a2,b2,jW,vI⟩:=HY (n - 1) _ _ wr.drew hJd mM o8;have lQ:=jr.num i q hq;have hwi:IntKind.i64.wrap ((i:Int)+1)=(i:Int)+1:=(by have:=jr.len.1;rw[IntKind.wrap_i64];omega);simp only[EK,m7,d6,Int.natCast_add,Int.cast_ofNat_Int] at jW;obtain⟨UM,pW,RF,XB⟩:=zJ4 zh eF Di mM;obtain⟨num,rY⟩:=zF q.num;rw[rY] at zn jW;clear zh eF Di mM hJd CE hrd bH GM hci iO uD S1 rY lQ;have l9:prog.follows .mixedOrders=true:=zS2;gi_wp2;have hHeld:wr.drew.cell? g1=(bm,0)/\wr.drew.cell? (bm,1)=(pb,po,pn,pU)/\wr.drew.cell? (pb,po+i*14)=v0/\wr.drew.cell? (pb,po+i*14+1)=v1/\wr.drew.cell? (pb,po+i*14+2)=v2/\wr.drew.cell? (pb,po+i*14+3)=v3/\wr.drew.cell? (pb,po+i*14+4)=v4/\wr.drew.cell? (pb,po+i*14+5)=v5/\wr.drew.cell? (pb,po+i*14+6)=v6/\wr.drew.cell? (pb,po+i*14+7)=v7/\wr.drew.cell? (pb,po+i*14+8)=v8/\wr.drew.cell? (pb,po+i*14+9)=v9/\wr.drew.cell? (pb,po+i*14+10)=v10/\wr.drew.cell? (pb,po+i*14+11)=v11/\wr.drew.cell? (pb,po+i*14+12)=num:=⟨c1,m1,z0,z1,z2,z3,z4,z5,z6,z7,z8,z9,nZ,og,zn⟩;refine aP.start (λW=>W.cell? g1=(bm,0)/\W.cell? (bm,1)=(pb,po,pn,pU)/\W.cell? (pb,po+i*14)=v0/\W.cell? (pb,po+i*14+1)=v1/\W.cell? (pb,po+i*14+2)=v2/\W.cell? (pb,po+i*14+3)=v3/\W.cell? (pb,po+i*14+4)=v4/\W.cell? (pb,po+i*14+5)=v5/\W.cell? (pb,po+i*14+6)=v6/\W.cell? (pb,po+i*14+7)=v7/\W.cell? (pb,po+i*14+8)=v8/\W.cell? (pb,po+i*14+9)=v9/\W.cell? (pb,po+i*14+10)=v10/\W.cell? (pb,po+i*14+11)=v11/\W.cell? (pb,po+i*14+12)=num) 20 zK ?_;refine aP.tk 0 20 [] hHeld ?_;refine aP.tk 1 2 [19,20] hHeld ?_;refine aP.tk 2 19 [20] hHeld ?_;refine aP.tk 3 4 [5,6,8,9,10,19,20] hHeld ?_;refine aP.tk 4 5 [6,8,9,10,19,20] hHeld ?_;refine aP.tk 5 6 [8,9,10,19,20] hHeld ?_;refine aP.tk 6 8 [9,10,19,20] hHeld ?_;refine aP.tk 7 8 [9,10,19,20] hHeld ?_;refine aP.tk 8 9 [10,19,20] hHeld ?_;refine aP.tk 9 10 [19,20] hHeld ?_;refine aP.tk 10 19 [20] hHeld ?_;refine aP.tk 11 12 [13,14,16,17,18,19,20] hHeld ?_;refine aP.tk 12 13 [14,16,17,18,19,20] hHeld ?_;refine aP.tk 13 14 [16,17,18,19,20] hHeld ?_;refine aP.tk 14 16 [17,18,19,20] hHeld ?_;refine aP.tk 15 16 [17,18,19,20] hHeld ?_;refine aP.tk 16 17 [18,19,20] hHeld ?_;refine aP.tk 17 18 [19,20] hHeld ?_;refine aP.tk 18 19 [20] hHeld ?_;refine aP.tk 19 20 [] hHeld ?_;refine aP.on 20 λK hK=>?_;go_simp;refine⟨(λh=>by cases h),(vI.mono (λe B h=>Hy h)).mono ?_⟩;rintro e w3 ⟨v,rfl,Jd,Je⟩;refine iW hK ?_;clear hK K vI jW hHeld;(try simp only[Act.put,dG,dH,dI]);refine aP.oe 21 ?_;refine aP.dn ?_;clear c1 m0 m1 m2 m3 m4 m5 z0 z1 z2 z3 z4 z5 z6 z7 z8 z9 nZ og zn zf jw;cases v
  ·exact azi
  exact awk
 obtain rfl:k=xn:=zO;have jV:=zT2 (k<k);have jo:(ku m (s+1)).take k=ku m (s+1):=l8 (by rw[<-Ky.1];exact zR _);rw[jo] at zh;have UM:=zH zh;clear zh jo;gi_wp2
 go_end0
 exact⟨⟨_,rfl⟩,.inl ⟨_,rfl,UM⟩⟩
theorem ann(m:eQ)(B bm g1 g2 s:Nat)(w0:World)(X:Nat->Prop)(hM:mO w0 B bm m)(fQ:mQ m)(hB:B<=w0)(h1:w0.heap[g1]?=Zc #[(bm,0)] 93)(h2:w0.heap[g2]?=Zc #[s] 3)(hX:∀q,X q->¬q<B/\g1≠q/\g2≠q)(dW:m.all=[])(hs:s<=m.places.length):
 ∃rl:List SC,rl.map (·.1)=gK m s/\(∀x∈rl,au w0 (· <B) (aZ x.1.leaf) x.2)/\yF prog 145 #[(g1,0),(g2,0)] EK X (· =rl) (· <+:rl) w0:=by
 exact aav m (· <B) bm g1 g2 s w0 X hM fQ (λq h=>d4 h hB) h1 h2 hX dW hs
end
section
attribute [local go_sem] Oper.semAt_some
theorem ano(h:cu w b o [v0,v1,v2,v3,v4,v5,v6,v7,v8,v9,v10,v11]):w.cell? (b,o)=v0/\w.cell? (b,o+1)=v1/\w.cell? (b,o+2)=v2/\w.cell? (b,o+3)=v3/\w.cell? (b,o+4)=v4/\w.cell? (b,o+5)=v5/\w.cell? (b,o+6)=v6/\w.cell? (b,o+7)=v7/\w.cell? (b,o+8)=v8/\w.cell? (b,o+9)=v9/\w.cell? (b,o+10)=v10/\w.cell? (b,o+11)=v11:=
 ⟨h 0 _ rfl,h 1 _ rfl,h 2 _ rfl,h 3 _ rfl,h 4 _ rfl,h 5 _ rfl,h 6 _ rfl,h 7 _ rfl,h 8 _ rfl,h 9 _ rfl,h 10 _ rfl,h 11 _ rfl⟩
theorem aax(m:eQ)(F:Nat->Prop)(bm g1 g2 s:Nat)(w0:World)(X:Nat->Prop)(hM:Gs w0 F bm m)(fQ:mQ m)(hB:∀q,F q->q<w0.heap.size)(h1:w0.heap[g1]?=Zc #[(bm,0)] 93)(h2:w0.heap[g2]?=Zc #[s] 3)(hX:∀q,X q->¬F q/\g1≠q/\g2≠q)(dW:m.all≠[])(hs:s<1000000):
 ∃rl:List SC,rl.map (·.1)=gK m s/\(∀x∈rl,au w0 F (aZ x.1.leaf) x.2)/\yF prog 145 #[(g1,0),(g2,0)] EK X (· =rl) (· <+:rl) w0:=by
 obtain⟨eA,en,ec,pA,pn,pU,fA,fn,fc,mb,aA,an,ac,uD,GH,hmB,hE,hP,hF,BB,hA,EI,jR,Py,IU,han⟩:=hM;have tJ:=hA.1;rw[List.length_map] at tJ;have kD:0<an:=(by rw[tJ];exact List.length_pos_iff.2 dW);obtain⟨ab,ao,haA,aBZ,har⟩:=hA.2 kD;subst haA;have aIn:an<=6:=(by rw[tJ];exact fQ.len.2.1);obtain⟨cells,hce⟩:∃cells:Nat->List Value,∀i,cells i=rdC w0 ab (ao+i*12):=⟨_,λ_=>rfl⟩;have bZ:gK m s=qH m.all s 0 1 s:=(by unfold gK;rw[j5 (by simpa using dW)])
 have lT:∀(i:Nat) (p:aJ),m.all[i]?=p->∃v0 v1 v2 v3 v4 v5 v6 v7 v8 v9 v10 v11,cells i=[v0,v1,v2,v3,v4,v5,v6,v7,v8,v9,v10,v11]/\au w0 F (aZ p) [v0,v1,v2,v3,v4,v5,v6,v7,v8,v9,v10,v11]/\cu w0 ab (ao+i*12) [v0,v1,v2,v3,v4,v5,v6,v7,v8,v9,v10,v11]:=λi p hp=>by
  obtain⟨cs,GI,Wu⟩:=har.get i (aZ p) (by rw[z17,hp];rfl);obtain⟨k,mn,mx,el,ck,ns,nl,sp,A1,n1,c1,A2,n2,c2,pr,A,n,c,rfl,-⟩:=aW Wu;exact⟨_,_,_,_,_,_,_,_,_,_,_,_,by rw[hce];exact akN (r:=[]) (by simpa using GI) rfl,Wu,GI⟩
 refine⟨MC cells m.all s 0 1 s,by rw[agr,bZ],?_,?_⟩
 ·refine ags cells m.all s 0 1 s λj p d nn hj=>?_;obtain⟨v0,v1,v2,v3,v4,v5,v6,v7,v8,v9,v10,v11,h1,h2,-⟩:=lT j p hj;rw[d9,h1];exact h2
 intro n l J Jx W hk h3 hY hJ;obtain⟨RL,hRL⟩:=zF (MC cells m.all s 0 1 s);rw[hRL] at hY ⊢;obtain⟨HY,H1,HX,jr,Xc,HAN,BR⟩:=zJ7 hY h3 hX fQ lT tJ hRL;have HB':Hid (∀q,F q->q<W.heap.size):=zH λq h=>d4 (hB q h) hk.size;have GR:∀q,F q->W.heap[q]?=w0.heap[q]?:=λq h=>hk.block q (hB q h) (λe=>(hX q e).1 h);have S1:=bF h1 hk (λe=>(hX _ e).2.1 rfl);have S2:=bF h2 hk (λe=>(hX _ e).2.2 rfl);have mV:W.heap[bm]?=Zc #[(eA,en,ec),(pA,pn,pU),(fA,fn,fc),.map (some mb),m.empty,(ab,ao,an,ac)] 169:=(GR bm GH).trans uD;obtain⟨lV,qo,c1,c2,m0,HW0,XH,xC⟩:=zK8 (aC S1) (aC S2) (aO S1) (aO S2) (uK mV) (zH GR) (zH S1) (zH S2);have HB0:=zH uD;have lM:=zH hA;have dD:=akh ab ao an ac;clear hY h3 hX fQ hce tJ hk GR S1 S2 uD mV h1 h2 hE hP hF BB hA EI bZ dW har lT hRL;refine callsIn_of_wp func145 rfl trivial ?_ rfl;simp only[ntmps145,YV,List.length_cons,z24,Nat.reduceAdd,Nat.reduceSub,Ze,Zd,List.push_toArray,ZD,d6,m7];have l9:prog.follows .mixedOrders=true:=zS2;gi_wp2;have hHeld:W.drew.cell? g2=s:=c2;refine aP.start (λW=>W.cell? g2=s) 2 zK ?_;refine aP.tk 0 2 [] hHeld ?_;refine aP.tk 1 2 [] hHeld ?_;refine aP.oe 2 ?_;clear hHeld;refine aP.dn ?_;have hJW:=H1 _ W W.drew hJ (zR _) ⟨rfl,rfl,rfl,zR _,λ_ _=>rfl⟩;have hKW:Kept (λq=>X q\/W<=q) W W.drew:=(Kept.refl _ _).drew;gi_wp2
 gi_loopw [4,5,22] (λs4 s5 s22 wr=>∃(i u q:Nat) (pre:List SC),i<=an/\s4= u/\s5= q/\s22= i/\u=4 ^ i/\q<1000000/\Hid (RL=pre++MC cells (m.all.drop i) s i u q)/\J pre wr/\W.heap.size<=wr/\Kept (λq=>X q\/W<=q) W wr)
  (λ_ _ s22 _=>an - (intOf s22).toNat)
 case atStart=>exact⟨0,1,s,[],zO,rfl,rfl,rfl,rfl,hs,zH (by rw[d6,List.drop_zero];exact BR.symm),hJW,zR _,hKW⟩
 obtain⟨i,u,q,pre,hi,rfl,rfl,rfl,hu,hq,HQ,zh,o8,eF⟩:=hrel;have iO:∀q,F q->wr.heap[q]?=w0.heap[q]?:=λq h=>(eF.block q (HB' q h) (by rintro (h1 | h1);exact(HX q h1).1 h;have:=HB' q h;omega)).trans (HW0 q h);have S1:=bF XH eF (by rintro (h | h);exact(HX _ h).2.1 rfl;omega);have S2:=bF xC eF (by rintro (h | h);exact(HX _ h).2.2 rfl;omega);have uD:wr.heap[bm]?=Zc #[(eA,en,ec),(pA,pn,pU),(fA,fn,fc),.map (some mb),m.empty,(ab,ao,an,ac)] 169:=(iO bm GH).trans HB0;clear c1 c2 m0
 have hu6:u<=4096:=by
  rw[hu];have:i=0\/i=1\/i=2\/i=3\/i=4\/i=5\/i=6:=zO
  rcases this with rfl | rfl | rfl | rfl | rfl | rfl | rfl<;>decide
 by_cases aN:i<an
 ·have jV:=zT1 (i<an);obtain⟨px,hpx⟩:∃p,m.all[i]?=some p:=⟨_,Jl (by rw[<-HAN.out];exact aN)⟩;obtain⟨v0,v1,v2,v3,v4,v5,v6,v7,v8,v9,v10,v11,hci,bH,GM⟩:=Xc i px hpx;obtain⟨kx,gU,gz,gZ,ig,ik,iq,iw,iy,iC,iD,iE,iF,iG,iH,Ax,nx,cx,fJ,-,-,ahN,-⟩:=aW bH;simp only[i7,and_true] at fJ;obtain⟨rfl,rfl,rfl,rfl,rfl,rfl,rfl,rfl,rfl,rfl,rfl,rfl⟩:=fJ;obtain⟨z0,z1,z2,z3,z4,z5,z6,z7,z8,z9,nZ,og⟩:=ano (w:=wr) (GM.keep (iO ab aBZ));have dO:∀V,(Instr.indexAt 27 (ab,ao,an,ac) i).run prog V= .ok (ab,ao+i*12) V:=dN 27 29 12 underlying27 (λw=>by kernel_rfl) rfl an ac i aN;obtain⟨wa,BK,SA,Vg,bJ⟩:=zP1 wr kx gU gz gZ ig ik iq iw iy iC iD iE iF iG iH Ax nx cx;obtain⟨x0,c2,bZ⟩:=zK3 (aj SA) (aO (ae S2 bJ)) HQ.out;rw[anm cells hpx,ahN,hci] at bZ;have ank:(q:Int).tmod 4=((q % 4:Nat):Int):=(by rw[Int.tmod_eq_emod_of_nonneg zO];omega);have ahO:(q:Int).tdiv 4=((q / 4:Nat):Int):=(by rw[Int.tdiv_eq_ediv_of_nonneg zO];omega);obtain⟨g,hg⟩:=zF (q % 4);rw[hg] at ank bZ;have CY:g<4:=zO;have vV:IntKind.i64.wrap (4*(u:Int))=4*(u:Int):=zS3;have atZ:wrap64 (4*(u:Int))=((4*u:Nat):Int):=(by rw[CU zO zO];push_cast;rfl);have hu1:4*u=4 ^ (i+1):=(by rw[hu,Nat.pow_succ,Nat.mul_comm]);have hq4:q / 4<1000000:=zO;have HU1:=zH hu1;have hJa:=H1 _ wr wa zh o8 bJ;have D5:Kept (λq=>X q\/W<=q) W wa:=eF.trans (Qh bJ);have anp:W.heap.size<=wa:=zT o8 bJ.size;obtain⟨HJA,Xj⟩:=zJ2 hJa D5;clear GM bH hci uD S1 S2 SA hg hu hu1 iO hJa D5 zh eF hpx;by_cases h1:(g:Int)<gz
  ·rw[j6 h1] at bZ;have gJ:decide ((g:Int)<gz)=true:=decide_eq_true h1;have hws:IntKind.i64.wrap ((s:Int)+(u:Int))=(s:Int)+(u:Int):=zS3;have hwi:IntKind.i64.wrap ((i:Int)+1)=(i:Int)+1:=zS3
   have mM:pre++[(⟨s+u,i+1,px⟩,[.int .i64 kx,.int .i64 gU,.int .i64 gz,.int .i64 gZ,.int .i64 ig,.string ik,.string iq,.string iw,.slice iy iC iD,.slice iE iF iG,.int .i64 iH,.slice Ax nx cx])]<+:RL:=by
    rw[bZ,<-d7];exact List.prefix_append _ _
   rw[<-d7] at bZ;obtain⟨f2,t2,a2,b2,jW,vI⟩:=HY (n - 1) _ _ wa HJA mM anp;simp only[EK,m7,d6,Int.natCast_add,Int.cast_ofNat_Int] at jW;obtain⟨sV,XB⟩:=zJ2 bZ mM;clear bZ mM;gi_wp2;refine⟨(λh=>by cases h),(vI.mono (λe B h=>Hy h)).mono ?_⟩;rintro e w3 ⟨v,rfl,Jd,Je⟩;clear vI jW x0 c2;cases v
   ·have hx:=Je rfl;have HXX:=zH hx;clear hx Jd Je;gi_wp2
    first | go_end0 | (refine Qg (results_none rfl _ _ _) rfl ?_)
    exact⟨⟨_,rfl⟩,.inr ⟨_,XB,HXX⟩⟩
   obtain⟨hJ3,bW⟩:=Jd rfl;obtain⟨HJ3,Dn⟩:=zJ2 hJ3 bW;clear hJ3 bW Jd Je;gi_wp2;go_roundw
   case rel=>exact⟨i+1,4*u,q / 4,_,zO,by first | rfl | (simp[atZ];done) | go_num,by first | rfl | (simp[ahO];done) | go_num,by go_num,HU1,hq4,sV,HJ3,zT anp Dn.size,Xj.trans Dn⟩
   simp[intOf];omega
  rw[j5 h1,d6] at bZ;have gJ:decide ((g:Int)<gz)=false:=decide_eq_false h1;have sV:=zH bZ;clear bZ
  gi_wp2_with (refine wpListIn_skip zL (by first | rfl | kernel_rfl) ?_)
  go_roundw
  case rel=>exact⟨i+1,4*u,q / 4,pre,zO,by first | rfl | (simp[atZ];done) | go_num,by first | rfl | (simp[ahO];done) | go_num,by go_num,HU1,hq4,sV,HJA,anp,Xj⟩
  simp[intOf];omega
 have jV:=zT2 (i<an);have bZ:=HQ.out;rw[z14 (by rw[<-HAN.out];omega),MC,m8] at bZ;obtain⟨sV,UM⟩:=zJ2 bZ zh;clear bZ zh uD S1 S2;gi_wp2
 first | go_end0 | (refine Qg (results_none rfl _ _ _) rfl ?_)
 exact⟨⟨_,rfl⟩,.inl ⟨_,rfl,by rw[sV.out];exact UM⟩⟩
theorem anq(m:eQ)(B bm g1 g2 s:Nat)(w0:World)(X:Nat->Prop)(hM:mO w0 B bm m)(fQ:mQ m)(hB:B<=w0)(h1:w0.heap[g1]?=Zc #[(bm,0)] 93)(h2:w0.heap[g2]?=Zc #[s] 3)(hX:∀q,X q->¬q<B/\g1≠q/\g2≠q)(dW:m.all≠[])(hs:s<1000000):
 ∃rl:List SC,rl.map (·.1)=gK m s/\(∀x∈rl,au w0 (· <B) (aZ x.1.leaf) x.2)/\yF prog 145 #[(g1,0),(g2,0)] EK X (· =rl) (· <+:rl) w0:=by
 exact aax m (· <B) bm g1 g2 s w0 X hM fQ (λq h=>d4 h hB) h1 h2 hX dW hs
end
