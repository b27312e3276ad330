import Derived.Test.YtgmnnegfndpakaaGreatDoorH32
import Derived.Test.YtgmnnegfndpakaaGreatDoorH31
set_option maxHeartbeats 20000000
set_option maxRecDepth 100000
namespace Go.Proofs.YtgmnnegfndpakaaGreatDoor
open Go.RowKit Go.Proofs.Tryz
variable{base ba i:Nat}{a b c w w' W:World}{ns:List Nm}{ss:List ByteArray}{v1 v2:Value}{α:Type}{l:List α}
structure jH (base ba:Nat) (w w':World):Prop where
 kept:Kept (λq=>q=ba\/base<=q) w w'
 ty:∀(q:Nat) (cs:Array Value) (t:TypeId) (fr:Nat×Nat),w.heap[q]?=Obj.cells cs t fr->t≠129->t≠23->t≠9->w'.heap[q]?=some (Obj.cells cs t fr)
theorem jH.refl(base ba:Nat)(w:World):jH base ba w w:=⟨Kept.refl _ _,λ_ _ _ _ h _ _ _=>h⟩
theorem jH.trans(h:jH base ba a b)(k:jH base ba b c):jH base ba a c:=
 ⟨h.kept.trans k.kept,λq cs t fr hq h1 h2 h3=>k.ty q cs t fr (h.ty q cs t fr hq h1 h2 h3) h1 h2 h3⟩
theorem jH.of_below(h:Bw w w'):jH base ba w w':=
 ⟨Qh h,λ_ _ _ _ hq _ _ _=>ae hq h⟩
theorem jH.Y0(h:sN w base ba ns ss v1 v2)(hk:Kept (λq=>q=ba\/v1.ownBlock=some q\/v2.ownBlock=some q) w w'):jH base ba w w':=by
 refine⟨fE hk λq hq=>?_,λq cs t fr hq h1 h2 h3=>bF hq hk ?_⟩
 ·rcases hq with hq | hq | hq
  ·exact .inl hq
  ·exact .inr (h.ql.block_lt hq).1
  exact .inr (h.oK.block_lt hq).1
 rintro (e | e | e)
 ·have:=h.blk;rw[<-e,hq] at this;simp only[l5,Obj.cells.injEq] at this;exact h1 this.2.1
 ·obtain⟨cs',h4⟩:=h.ql.VT e;rw[hq] at h4;simp only[l5,Obj.cells.injEq] at h4;exact h2 h4.2.1
 obtain⟨cs',h4⟩:=h.oK.VT e;rw[hq] at h4;simp only[l5,Obj.cells.injEq] at h4;exact h3 h4.2.1
theorem qE.fin2{c2:Value}(h:qE W base ba v1 c2 ns ss v1 v2):sN (W.setCell (ba,1) v2) base ba ns ss v1 v2:=by
 refine⟨?_,h.ql.bu λq hq=>gq (h.ne.1 q hq).1,h.oK.bu λq hq=>gq (h.ne.2 q hq)⟩;have h1:=dM (i:=1) (v:=v2) h.blk;simpa using h1
theorem KP:∀l:List aT,Dy l=l.flatMap Bh
 | []=>by rw[Dy];rfl
 | c::l=>by rw[Dy,KP l];rfl
theorem KQ:∀l:List aT,Dz l=l.flatMap Bi
 | []=>by rw[Dz];rfl
 | c::l=>by rw[Dz,KQ l];rfl
theorem VV:∀a b:List aT,iZ (a++b)=iZ a+iZ b
 | [],b=>by rw[iZ];simp
 | c::a,b=>by rw[m7,iZ,iZ,VV a b];omega
mutual
theorem SV:∀c:aT,(Bh c).length<=kC c/\(Bi c).length<=kC c
 | .mk k ns nl s ex ar=>by
   rw[Bh,Bi,kC];have h1:=Ig ex;have h2:=Ig ar;simp only[z5];refine⟨?_,?_⟩
   ·split<;>simp<;>omega
   split
   ·simp;omega
   split<;>simp<;>omega
theorem Ig:∀l:List aT,(Dy l).length<=iZ l/\(Dz l).length<=iZ l
 | []=>by rw[Dy,Dz];simp
 | c::l=>by
   rw[Dy,Dz,iZ];have h1:=SV c;have h2:=Ig l;simp only[z5];omega
end
theorem Y3:∀l:List aT,l.length<=iZ l
 | []=>by simp
 | c::l=>by
   rw[iZ,z9];have:=Y3 l;have h2:1<=kC c:=(by cases c;rw[kC];omega);omega
theorem take_snoc{β:Type}{x:α}(h:l[i]?=x)(f:α->List β):(l.take (i+1)).flatMap f=(l.take i).flatMap f++f x:=by
 rw[List.take_add_one,h,Option.toList_some,l6,List.flatMap_singleton]
theorem als{l:List aT}{x:aT}(h:l[i]?=x):iZ (l.take i)+kC x<=iZ l:=by
 have h1:l=l.take i++l.drop i:=(List.take_append_drop i l).symm;have h2:=ajg h
 conv=>rhs;rw[h1,VV]
 omega
def OI(k:Int)(a b:ByteArray):List Nm:=if k=1 then [(a,b)] else []
def OJ(k:Int)(a s:ByteArray):List ByteArray:=if k=1 then [a] else if k=2 then [s] else []
theorem alu(base ba:Nat)(F:Nat->Prop)(hF:∀q,F q->q<base/\q≠ba)(c:aT):∀(cs:List Value) (ns:List Nm) (ss:List ByteArray) (v1 v2:Value) (w:World),dA w F c cs->sN w base ba ns ss v1 v2->ns.length+kC c<900000->ss.length+kC c<900000->base<=w->
 Cl 163 #[(ba,0),.agg cs.toArray] w λe w'=>e= .returned (.tuple #[])/\∃Ad yj,sN w' base ba (ns++Bh c) (ss++Bi c) Ad yj/\jH base ba w w':=by
 induction c using aT.ind with
 | h k Hf n1l s ex ar hex har=>
   intro cs ns ss v1 v2 w hr hm qw lW eY;obtain⟨A,n,c0,A',n',LW,rfl,hn,CO,hre,IQ⟩:=hr.form;have lQ:kC (.mk k Hf n1l s ex ar)=1+iZ ex+iZ ar:=(by rw[kC]);rw[lQ] at qw lW
   have hIH:∀x∈ex++ar,∀(cs:List Value) (ns:List Nm) (ss:List ByteArray) (v1 v2:Value) (w:World),dA w F x cs->sN w base ba ns ss v1 v2->ns.length+kC x<900000->ss.length+kC x<900000->base<=w->
    Cl 163 #[(ba,0),.agg cs.toArray] w λe w'=>e= .returned (.tuple #[])/\∃Ad yj,sN w' base ba (ns++Bh x) (ss++Bi x) Ad yj/\jH base ba w w':=λx hx=>by
    rcases z12.1 hx with h | h
    ·exact hex x h
    exact har x h
   have XU:Bh (.mk k Hf n1l s ex ar)=OI k Hf n1l++(ex++ar).flatMap Bh:=(by rw[Bh,OI,KP,KP,l6]);have hSS:Bi (.mk k Hf n1l s ex ar)=OJ k Hf s++(ex++ar).flatMap Bi:=(by rw[Bi,OJ,KQ,KQ,l6]);obtain⟨w1,bI,S1,nC,ai⟩:=af w (Zc #[k,Hf,n1l,s,(A,n,c0),(A',n',LW)] 26);obtain⟨q0,iY,jT,LZ,dD,Pn,rZ,FZ⟩:=zK8 (gG S1) (hm.below ai) (Y3 ex) (Y3 ar) hre.1 IQ.1 (zH hIH) (zH XU);obtain⟨HSS,aQ,yY,HF,nK,HL1,JA,DN⟩:=zJ8 hSS S1 iY hF ai qw lW eY;have UA:=zH (show n+n'<1000000 by omega);obtain⟨HNE,HNA⟩:=zJ2 dD Pn
   have HRE:Hid (jO w1 F ex A n):=zH (by
    refine⟨hre.1,λhp=>?_⟩;obtain⟨b,off,e1,e2,e3⟩:=hre.2 hp
    exact⟨b,off,e1,e2,jq.keep (λq hq aN=>⟨hq,ai.block q aN⟩) ex b off (ai.block b (e3.lt' _ _ _ (List.length_pos_iff.1 hp))) e3⟩)
   have HRA:Hid (jO w1 F ar A' n'):=zH (by
    refine⟨IQ.1,λhp=>?_⟩;obtain⟨b,off,e1,e2,e3⟩:=IQ.2 hp
    exact⟨b,off,e1,e2,jq.keep (λq hq aN=>⟨hq,ai.block q aN⟩) ar b off (ai.block b (e3.lt' _ _ _ (List.length_pos_iff.1 hp))) e3⟩)
   clear hIH XU hSS hm iY hF hr lQ hex har hre IQ jT LZ qw lW eY dD Pn S1;go_enter func163,ntmps163;go_upto_block 0 with fail
   go_cut [] (λwc=>∃Ad yj,sN wc base ba (ns++OI k Hf n1l) (ss++OJ k Hf s) Ad yj/\jH base ba w1 wc)
   case first=>
    by_cases eu:k=1
    ·subst eu;have rY:=name_any base ba ns ss v1 v2 Hf n1l w1 yY (by have:=HL1.out;omega) (by have:=JA.out;omega) (by have:=DN.out;omega);have HNM:=zH rY;clear rY
     go_wp2_with (go_at_call 117;refine HNM.mono ?_;rintro e w2 ⟨rfl,Ad,yj,h1,h2⟩;have H1:=zH h1;have H2:=zH h2;clear h1 h2)
     go_meet;exact⟨_,_,H1,jH.Y0 yY H2⟩
    have gJ:(k==1)=false:=(by simpa using eu);by_cases dm:k=2
    ·subst dm;obtain⟨A2,c2,rfl⟩:=yY.oK.form;obtain⟨n2,qY⟩:=zF ss.length;have l9:=yY.out;rw[qY] at l9;have Pj:sN w1.drew base ba ns ss v1 (A2,n2,c2):=l9.keep λq _=>rfl;obtain⟨w2,mJ,S2,uS,ag⟩:=af w1.drew (Zc #[s] 9);have nJ:=Pj.below ag;have S12:=ae (show w1.drew.heap[w.heap.size]?=Zc #[(2:Int),Hf,n1l,s,(A,n,c0),(A',n',LW)] 26 from aQ) ag;obtain⟨yj,w3,Bq,XA,az,bW⟩:=nJ.aif w1.drew s (OH S2) (by have:=JA.out;omega) (by have h:=DN.out;have h2:=ag.size;have h3:w1.drew=w1.heap.size:=rfl;omega);have hCk:∀V:World,V.heap[ba]?=Zc #[v1,(A2,n2,c2)] 129->V.heap[w.heap.size]?=Zc #[(2:Int),Hf,n1l,s,(A,n,c0),(A',n',LW)] 26->(V.cell? (ba,1)=(A2,n2,c2)/\V.cell? (w,3)=s):=λV h1 h2=>⟨(dw h1).2,(gG h2).2.2.2.1⟩;have hC0:=hCk w1.drew Pj.blk aQ;have hC2:=hCk w2 nJ.blk S12
     have hC3:=hCk w3 XA.blk ((az _ (aC S12) (λe=>by
      obtain⟨cs,h4⟩:=nJ.oK.VT e
      rw[S12] at h4;simp at h4)).trans S12)
     have avj:Kept (λq=>q=ba\/v1.ownBlock=some q\/(Value.slice A2 n2 c2).ownBlock=some q) w1 w3:=((Kept.refl _ w1).drew.trans (Qh ag)).trans (fE bW λq hq=>.inr (.inr hq));have f3:=k8 w3 ba 1 _ _ XA.blk;obtain⟨B2,d2,rfl⟩:=XA.oK.form;obtain⟨m2,avk⟩:=zF ((ss++[s]).length);rw[avk] at Bq XA;obtain⟨I4,aCE,aCF,aCG,air,JU⟩:=zJ6 XA avj hC0 hC2 hC3 l9;have avl:w1.drew=w1.heap.size:=rfl;rw[avl] at Bq;clear l9 Pj S2 nJ S12 XA az bW hCk hC2 hC3 avj avk qY avl;have jc:((2:Int)==1)=false:=rfl;go_wp2_with fail;have hHeld:=aCF.out;refine ah.start (λV=>V.cell? (ba,1)=(A2,n2,c2)/\V.cell? (w,3)=s) 11 zK ?_;refine ah.ta 0 hHeld ?_;refine ah.ta 1 hHeld ?_;refine ah.ta 2 hHeld ?_;refine ah.ta 3 hHeld ?_;refine ah.tk 4 hHeld ?_;refine ah.ta 5 hHeld ?_;refine ah.tk 6 hHeld ?_;refine ah.acF 7 (λ_=>aCG) ?_;refine ah.on 8 λK hK=>?_;refine wM rfl (.tmp 20) (.tmp 23) 47 rfl rfl rfl Bq ?_;refine di hK (λ_=>air) ?_;clear hK K;refine ah.acF 9 (λ_=>air) ?_;refine ah.acF 10 (λ_=>air) ?_;refine ah.on 11 λK hK=>?_;obtain⟨c31,-⟩:=air.out;go_simp;refine iW hK ?_;clear hK K c31;refine ah.dn ?_;go_wp2_with fail;go_meet;exact⟨_,_,by (rw[show OI 2 Hf n1l=[] from rfl,m8]);exact I4.fin2,jH.Y0 JU (aCE.setCell (p:=⟨ba,1,none⟩) (.inl (.inl rfl)) _)⟩
    have jc:(k==2)=false:=(by simpa using dm);have e1:OI k Hf n1l=[]:=j5 eu;have e2:OJ k Hf s=[]:=(by unfold OJ;rw[j5 eu,j5 dm]);obtain⟨E1,E2⟩:=zJ2 e1 e2;clear e1 e2;go_wp2_with fail;go_meet;exact⟨_,_,by rw[E1.out,E2.out,m8,m8];exact yY,jH.refl _ _ _⟩
   obtain⟨Ad,yj,UH,GN⟩:=hcut;obtain⟨N1,hN1⟩:=zF (ns++OI k Hf n1l);obtain⟨N2,Yd⟩:=zF (ss++OJ k Hf s);have aei:N1.length<=ns.length+1:=(by rw[<-hN1,List.length_append];unfold OI;split<;>simp)
   have aej:N2.length<=ss.length+1:=by
    rw[<-Yd,List.length_append];unfold OJ
    split
    ·simp
    split<;>simp
   rw[hN1,Yd] at UH;have Sc:=GN.ty _ _ _ _ aQ zD zD zD;clear q0;have q0:=gG Sc;have aCH:w1.heap.size<=wc:=GN.kept.size
   have aI:∀(l:List aT) (B:Option Addr) (m:Nat),jO w1 F l B m->jO wc F l B m:=λl B m h=>by
    refine⟨h.1,λhp=>?_⟩;obtain⟨b,off,e1,e2,e3⟩:=h.2 hp;have hb:∀q,F q->q<w1.heap.size->wc.heap[q]?=w1.heap[q]?:=λq hq aN=>GN.kept.block q aN (by have:=HF q hq;omega);exact⟨b,off,e1,e2,jq.keep (λq hq aN=>⟨hq,hb q hq aN⟩) l b off (hb b e2 (e3.lt' _ _ _ (List.length_pos_iff.1 hp))) e3⟩
   obtain⟨w2,mJ,S2,uS,ag⟩:=af wc (Zc #[(A,n,c0),(A',n',LW)] 24)
   have DR:∀(l:List aT) (B:Option Addr) (m:Nat),jO wc F l B m->jO w2 F l B m:=λl B m h=>by
    refine⟨h.1,λhp=>?_⟩;obtain⟨b,off,e1,e2,e3⟩:=h.2 hp;exact⟨b,off,e1,e2,jq.keep (λq hq aN=>⟨hq,ag.block q aN⟩) l b off (ag.block b (e3.lt' _ _ _ (List.length_pos_iff.1 hp))) e3⟩
   have Ar:=aip ex ar A n c0 A' n' LW wc w2 F (DR _ _ _ (aI _ _ _ HRE)) (DR _ _ _ (aI _ _ _ HRA)) (λq hq=>by have:=(HF q hq).1;have:=DN.out;omega) S2 UA;obtain⟨HCC,HMC,HKC,DU,IZ,um,an7,an8⟩:=zJ8 Ar UH GN ag hN1 Yd aei aej;clear Ar UH GN ag hN1 Yd aei aej aI DR S2 Sc
   go_wp2_with (go_at_call 192;refine HCC.mono ?_
                rintro e w3 ⟨v3,xs,rfl,Tc,Cb,FI,az⟩;obtain⟨A3,c3,rfl⟩:=Tc.form;obtain⟨n3,FH⟩:=zF xs.length;rw[FH] at Tc ⊢;obtain⟨HO3,Pq,HX2,lX,HXN⟩:=zK5 (zH Tc) (zH (FH.symm.trans Cb)) (zH FI) (zH (DU.seq az)) (zH FH);have aIL:n3<1000000:=(by have h1:=FH.symm.trans Cb;have h2:=UA.out;have h3:=HNE.out;have h4:=HNA.out;omega);have su:wc.heap.size<=w3:=zT DU.size az.size
                clear Tc Cb FI az FH)
   go_loopw [34] (λsi W=>∃(i:Nat) (u1 u2:Value),i<=n3/\si= i/\sN W base ba (N1++((ex++ar).take i).flatMap Bh) (N2++((ex++ar).take i).flatMap Bi) u1 u2/\jH base ba w3 W)
    (λsi _=>n3 - (intOf si).toNat)
   case atStart=>
    refine⟨0,Ad,yj,zO,rfl,?_,jH.refl _ _ _⟩;simp only[List.take_zero,List.flatMap_nil,m8];exact HMC.below lX
   obtain⟨i,u1,u2,hi,rfl,BZ,o9⟩:=hrel;by_cases aN:i<n3
   ·have gJ:=zT1 (i<n3);obtain⟨x,hx⟩:∃x,(ex++ar)[i]?=some x:=⟨_,Jl (by rw[List.length_append,<-Pq.out];exact aN)⟩;obtain⟨y,hy⟩:∃y,xs[i]?=some y:=⟨_,Jl (by rw[HXN.out];exact aN)⟩;have bH:=HX2 i x y hx hy
    obtain⟨g3,hg3,kU,aaF⟩:∃g,A3=some ⟨g,0,none⟩/\(∃cur,w3.heap[g]?=some (.cells cur 26))/\cu w3 g (i*6) y.1:=by
     obtain⟨A4,c4,e4,hr4,-,-⟩:=HO3.row abQ zD
     rcases HO3.2 with ⟨_,h0⟩ | ⟨g,cap,cur,e5,_,hh,_⟩
     ·rw[HXN.out] at h0;omega
     simp only[i6] at e4 e5;obtain⟨b,off,e6,_,h7⟩:=hr4.2 (by rw[HXN.out];omega);rw[<-e4.1,e5.1] at e6;simp only[l5,Addr.mk.injEq,and_true] at e6;obtain⟨rfl,rfl⟩:=e6;exact⟨g,e5.1,⟨cur,hh⟩,by have:=h7 i y hy;rwa [d9] at this⟩
    subst hg3;obtain⟨cur,kU⟩:=kU;have hcw:cu wr g3 (i*6) y.1:=aaF.keep ((o9.ty _ _ _ _ kU zD zD zD).trans kU.symm);obtain⟨ycs,hyl⟩:=y;obtain⟨k',a1,a2,a3,B1,m1,d1,B2,m2,d2,hyc⟩:=bH.cells;dsimp only at hyc hcw bH;subst hyc;obtain⟨z0,z1,z2,z3,z4,z5⟩:=hcw.six
    have dO:∀V,(Instr.indexAt 24 (g3,0,n3,c3) i).run prog V= .ok (g3,i*6) V:=λV=>by
     have e:=dN (P:=prog) 24 26 6 underlying24 (λw=>by kernel_rfl) (rfl:(g3:Option Addr)=g3) n3 c3 i aN V;rw[d9] at e;exact e
    obtain⟨w4,vV,S4,IX,aX⟩:=af wr (Zc #[k',a1,a2,a3,(B1,m1,d1),(B2,m2,d2)] 26);obtain⟨y0,xw,qw⟩:=zK3 (gG S4) (als hx) (Ig ((ex++ar).take i));rw[KP,KQ] at qw;rw[VV] at xw;have aIM:w3.heap.size<=wr:=o9.kept.size
    have jB:∀q,F q->q<w2.heap.size->w4.heap[q]?=w2.heap[q]?:=λq hq aN=>by
     have h1:=HF q hq;have h2:=DN.out;have h3:wc.heap[q]?=w2.heap[q]?:=(DU.block q zO).symm;rw[aX.block q zO,o9.kept.block q zO zO,lX.block q zO,h3]
    have eG:dA w4 F x [k',a1,a2,a3,(B1,m1,d1),(B2,m2,d2)]:=dA.keep (λq hq aN=>⟨hq,jB q hq aN⟩) x _ bH;have yC:=rZ x (SK hx) _ _ _ u1 u2 w4 eG (BZ.below aX) (by rw[List.length_append];have:=HL1.out;have:=an7.out;omega) (by rw[List.length_append];have:=JA.out;have:=an8.out;omega) (by have:=DN.out;omega);rw[d7,d7,<-take_snoc hx,<-take_snoc hx] at yC;have RY:=zH yC;have Eg:=zH (o9.trans (jH.of_below aX));clear yC o9 BZ aX eG jB bH aaF hcw kU xw qw hyl S4 hx hy
    go_wp2_with (go_at_call 163;refine RY.mono ?_;rintro e w5 ⟨rfl,u3,u4,h5,h6⟩;have H5:=zH h5;have H6:=zH h6;clear h5 h6)
    go_roundw
    case rel=>exact⟨i+1,u3,u4,zO,by go_num,H5,Eg.trans H6⟩
    simp[intOf];omega
   have gJ:=zT2 (i<n3);have jo:(ex++ar).take i=ex++ar:=l8 (by rw[List.length_append,<-Pq.out];omega);rw[jo] at BZ;go_wp2_with fail
   go_end0
   refine⟨rfl,u1,u2,?_,(jH.of_below nK).trans (HKC.trans ((jH.of_below lX).trans o9))⟩;rw[FZ.out,HSS.out,<-d7,<-d7,IZ.out,um.out];exact BZ
def MM(k:Int)(c:aT):List Nm:=if k=2 then Bh c else []
def MN(k:Int)(c:aT):List ByteArray:=if k=2 then Bi c else []
mutual
def Gv:aJ->Nat
 | .mk k _ _ _ c _ args=>(if k=2 then kC c else 0)+mF args
def mF:List aJ->Nat
 | []=>0
 | p::l=>Gv p+mF l
end
theorem Ci:∀l:List aJ,DD l=l.flatMap DC
 | []=>by rw[DD];rfl
 | c::l=>by rw[DD,Ci l];rfl
theorem Cj:∀l:List aJ,DI l=l.flatMap DF
 | []=>by rw[DI];rfl
 | c::l=>by rw[DI,Cj l];rfl
mutual
theorem alz:∀p:aJ,(DC p).length<=Gv p/\(DF p).length<=Gv p
 | .mk k mn mx el c pr args=>by
   rw[DC,DF,Gv];have h1:=zQ args;have h2:=SV c;simp only[List.length_append];refine⟨?_,?_⟩<;>split<;>(try simp only[z24])<;>omega
theorem zQ:∀l:List aJ,(DD l).length<=mF l/\(DI l).length<=mF l
 | []=>by rw[DD,DI];simp
 | p::l=>by
   rw[DD,DI,mF];have h1:=alz p;have h2:=zQ l;simp only[List.length_append];omega
end
theorem Ye{l:List aJ}{x:aJ}(h:l[i]?=x):mF (l.take i)+Gv x<=mF l:=by
 induction l generalizing i with
 | nil=>simp at h
 | cons p l ih=>
   cases i with
   | zero=>
     simp only[List.getElem?_cons_zero,l5] at h;subst h;rw[List.take_zero,mF,mF];omega
   | succ i=>
     rw[Zs,mF,mF];have:=ih (by simpa using h);omega
theorem aek(base ba:Nat)(F:Nat->Prop)(hF:∀q,F q->q<base/\q≠ba)(p:aJ):∀(cs:List Value) (ns:List Nm) (ss:List ByteArray) (v1 v2:Value) (w:World),au w F (aZ p) cs->sN w base ba ns ss v1 v2->ns.length+Gv p<900000->ss.length+Gv p<900000->base<=w->
 Cl 118 #[(ba,0),.agg cs.toArray] w λe w'=>e= .returned (.tuple #[])/\∃Ad yj,sN w' base ba (ns++DC p) (ss++DF p) Ad yj/\jH base ba w w':=by
 induction p using aJ.ind with
 | h k mn mx el cl pr args ih=>
   intro cs ns ss v1 v2 w hr hm qw lW eY;obtain⟨c0,c1,c2,c3,c4,c5,A,n,c,rfl,eH,hn,aI⟩:=abU hr;obtain⟨ck,a1,a2,a3,B1,m1,d1,B2,m2,d2,Ar⟩:=eH.cells;simp only[i7,and_true] at Ar;obtain⟨rfl,rfl,rfl,rfl,rfl,rfl⟩:=Ar;have lQ:Gv (.mk k mn mx el cl pr args)=(if k=2 then kC cl else 0)+mF args:=(by rw[Gv]);rw[lQ] at qw lW;have XU:DC (.mk k mn mx el cl pr args)=MM k cl++args.flatMap DC:=(by rw[DC,MM,Ci]);have hSS:DF (.mk k mn mx el cl pr args)=MN k cl++args.flatMap DF:=(by rw[DF,MN,Cj]);obtain⟨w1,bI,S1,nC,ai⟩:=zP1 w k mn mx el ck a1 a2 a3 B1 m1 d1 B2 m2 d2 pr A n c;have q0:=aj S1;have iY:=hm.below ai;have an9:∀q,F q->w1.heap[q]?=w.heap[q]?:=λq hq=>ai.block q (by have:=(hF q hq).1;omega);obtain⟨rZ,FZ,HSS,aQ,yY,HF,nK,HL1⟩:=zJ8 ih XU hSS S1 iY hF ai qw;obtain⟨JA,DN⟩:=zJ2 lW eY;have lM:Hid (bM w1 F 12 (args.map aZ) A n):=zH (aI.keep λq hq=>⟨hq,an9 q hq⟩);have vJ:Hid (dA w1 F cl [ck,a1,a2,a3,(B1,m1,d1),(B2,m2,d2)]):=zH (dA.keep (λq hq _=>⟨hq,an9 q hq⟩) cl _ eH);have HN:=zH (show n=args.length by have:=aI.1;rwa [List.length_map] at this);clear ih XU hSS hm iY hF hr lQ eH aI qw lW eY an9 S1;go_enter func118,ntmps118;go_upto_if 8 with fail
   go_cut [] (λwc=>∃Ad yj,sN wc base ba (ns++MM k cl) (ss++MN k cl) Ad yj/\jH base ba w1 wc)
   case first=>
    by_cases eu:k=2
    ·subst eu;have qw:=HL1.out;have lW:=JA.out;rw[j6 rfl] at qw lW;have rY:=alu base ba F HF cl _ ns ss v1 v2 w1 vJ yY zO zO (by have:=DN.out;omega);have HNM:=zH rY;clear rY qw lW
     go_wp2_with (go_at_call 163;refine HNM.mono ?_;rintro e w2 ⟨rfl,Ad,yj,h1,h2⟩;have H1:=zH h1;have H2:=zH h2;clear h1 h2)
     go_meet;exact⟨_,_,H1,H2⟩
    have gJ:(k==2)=false:=(by simpa using eu);have e1:MM k cl=[]:=j5 eu;have e2:MN k cl=[]:=j5 eu;obtain⟨E1,E2⟩:=zJ2 e1 e2;clear e1 e2;go_wp2_with fail;go_meet;exact⟨_,_,by rw[E1.out,E2.out,m8,m8];exact yY,jH.refl _ _ _⟩
   obtain⟨Ad,yj,UH,GN⟩:=hcut;obtain⟨N1,hN1⟩:=zF (ns++MM k cl);obtain⟨N2,Yd⟩:=zF (ss++MN k cl);have hcn:=SV cl;have aei:N1.length<=ns.length+(if k=2 then kC cl else 0):=(by rw[<-hN1,List.length_append];unfold MM;split<;>simp<;>omega);have aej:N2.length<=ss.length+(if k=2 then kC cl else 0):=(by rw[<-Yd,List.length_append];unfold MN;split<;>simp<;>omega);rw[hN1,Yd] at UH;have Sc:=GN.ty _ _ _ _ aQ zD zD zD;clear q0;have q0:=aj Sc;have aCH:w1.heap.size<=wc:=GN.kept.size;have aqC:bM wc F 12 (args.map aZ) A n:=lM.keep λq hq=>⟨hq,GN.kept.block q (by have:=(HF q hq).1;have:=DN.out;omega) (by have:=HF q hq;omega)⟩;obtain⟨HMC,HKC,IZ,um,an7,an8,ayg⟩:=zJ7 UH GN hN1 Yd aei aej aqC;clear UH GN hN1 Yd aei aej aqC Sc hcn;go_wp2_with fail
   go_loopw [16] (λsi W=>∃(i:Nat) (u1 u2:Value),i<=n/\si= i/\sN W base ba (N1++(args.take i).flatMap DC) (N2++(args.take i).flatMap DF) u1 u2/\jH base ba wc W)
    (λsi _=>n - (intOf si).toNat)
   case atStart=>
    refine⟨0,Ad,yj,zO,rfl,?_,jH.refl _ _ _⟩;simp only[List.take_zero,List.flatMap_nil,m8];exact HMC
   obtain⟨i,u1,u2,hi,rfl,BZ,o9⟩:=hrel;clear q0;by_cases aN:i<n
   ·have gJ:=zT1 (i<n);have Bz:wc.heap.size<=wr:=o9.kept.size;have avo:bM wr F 12 (args.map aZ) A n:=ayg.keep λq hq=>⟨hq,o9.kept.block q (by have:=(HF q hq).1;have:=DN.out;omega) (by have:=HF q hq;omega)⟩;obtain⟨b,off,px,y0,y1,y2,y3,y4,y5,y6,y7,y8,y9,y10,y11,HX,eG,z0,z1,z2,z3,z4,z5,z6,z7,z8,z9,nZ,og,dO⟩:=avo.DW aN c;obtain⟨kx,gU,gz,gZ,ig,ik,iq,iw,iy,iC,iD,iE,iF,iG,iH,Ax,nx,cx,fJ,-⟩:=aW eG;simp only[i7,and_true] at fJ;obtain⟨rfl,rfl,rfl,rfl,rfl,rfl,rfl,rfl,rfl,rfl,rfl,rfl⟩:=fJ;have l9:(.mk k mn mx el cl pr args:aJ)= .mk k mn mx el cl pr args:=rfl;obtain⟨w4,vV,S4,IX,aX⟩:=zP1 wr kx gU gz gZ ig ik iq iw iy iC iD iE iF iG iH Ax nx cx;obtain⟨x0,xw,qw⟩:=zK3 (aj S4) (Ye HX) (zQ (args.take i));rw[Ci,Cj] at qw;have ael:au w4 F (aZ px) [kx,gU,gz,gZ,ig,ik,iq,iw,(iy,iC,iD),(iE,iF,iG),iH,(Ax,nx,cx)]:=eG.keep λq hq=>⟨hq,aX.block q (by have:=(HF q hq).1;have:=DN.out;omega)⟩;have yC:=rZ px (SK HX) _ _ _ u1 u2 w4 ael (BZ.below aX) (by rw[List.length_append];have:=HL1.out;have:=an7.out;omega) (by rw[List.length_append];have:=JA.out;have:=an8.out;omega) (by have:=DN.out;omega);rw[d7,d7,<-take_snoc HX,<-take_snoc HX] at yC;have RY:=zH yC;have Eg:=zH (o9.trans (jH.of_below aX));clear yC o9 BZ aX eG ael avo xw qw S4 l9
    go_wp2_with (go_at_call 118;refine RY.mono ?_;rintro e w5 ⟨rfl,u3,u4,h5,h6⟩;have H5:=zH h5;have H6:=zH h6;clear h5 h6)
    go_roundw
    case rel=>exact⟨i+1,u3,u4,zO,by go_num,H5,Eg.trans H6⟩
    simp[intOf];omega
   have gJ:=zT2 (i<n);have jo:args.take i=args:=l8 (by rw[<-HN.out];omega);rw[jo] at BZ;go_wp2_with fail
   go_end0
   refine⟨rfl,u1,u2,?_,(jH.of_below nK).trans (HKC.trans o9)⟩;rw[FZ.out,HSS.out,<-d7,<-d7,IZ.out,um.out];exact BZ
theorem qE.fin1{c1:Value}(h:qE W base ba c1 v2 ns ss v1 v2):sN (W.setCell ba v1) base ba ns ss v1 v2:=by
 refine⟨?_,h.ql.bu λq hq=>gq (h.ne.1 q hq).1,h.oK.bu λq hq=>gq (h.ne.2 q hq)⟩;have h1:=dM (i:=0) (v:=v1) h.blk;simpa using h1
theorem abB{e:TypeId}{sz:Nat}{cells:α->List Value}{v:Value}(h:ax w base e sz cells l v)(hg:w.grownBy w' v.ownBlock):Kept (λq=>q=ba\/base<=q) w w':=
 ⟨hg.os,hg.tape,hg.output,hg.size,λq hq hn=>hg.block q hq (λe=>hn (.inr (h.block_lt e.symm).1))⟩
theorem alC(h:jH base ba a b)(k:jH base ba b c):jH base ba a c:=h.trans k
theorem Gw:∀(l acc:List Nm),(l.foldl sF acc).length<=acc.length+l.length
 | [],acc=>by simp
 | x::l,acc=>by
   rw[JN,List.length_cons];have h1:=Gw l (sF acc x);have h2:(sF acc x).length<=acc.length+1:=Iy _ _ _ _;omega
theorem Gz:∀(l acc:List ByteArray),(l.foldl qy acc).length<=acc.length+l.length
 | [],acc=>by simp
 | x::l,acc=>by
   rw[JN,List.length_cons];have h1:=Gz l (qy acc x);have h2:(qy acc x).length<=acc.length+1:=Iy _ _ _ _;omega
theorem U0(elems:List (List Nm))(ps:List aJ)(eA:Option Addr)(en ec:Nat)(lA:Option Addr)(ln lc:Nat)(w:World)(he:bM w (· <w) 1 (elems.map nU) eA en)(jR:en<6000000000000)(hp:bM w (· <w) 12 (ps.map aZ) lA ln)(Zz:ln<6000000000000)(bY:elems.flatten.length+mF ps<900000):
 Cl 56 #[(eA,en,ec),(lA,ln,lc)] w λe w'=>∃ba nA nn nc sA sn sc,e= .returned (.pointer (some ⟨ba,0,none⟩))/\yH w' ba (mZ elems ps) nA nn nc sA sn sc/\Bw w w':=by
 obtain⟨w1,bI,S1,nC,ai⟩:=af w (Zc #[(),()] 129);have iY:sN w1 w w [] [] () ():=⟨S1,ax.nil _ _ _ _ _,ax.nil _ _ _ _ _⟩;have WA:=zH (show en=elems.length by have:=he.1;rwa [List.length_map] at this);have Az:ln=ps.length:=(by have:=hp.1;rwa [List.length_map] at this);obtain⟨HPL,HE,HP,yY,JR,nK⟩:=zJ6 Az he hp iY bY ai;clear he hp iY bY S1 Az;go_enter func56,ntmps56;go_wp2_with fail
 go_loopw [16] (λsi W=>∃(i:Nat) (u1 u2:Value),i<=en/\si= i/\sN W w w (elems.take i).flatten ((elems.take i).flatten.map (·.1)) u1 u2/\jH w w w1 W)
  (λsi _=>en - (intOf si).toNat)
 case atStart=>exact⟨0,_,_,zO,rfl,by simpa using yY.out,jH.refl _ _ _⟩
 obtain⟨i,u1,u2,hi,rfl,BZ,o9⟩:=hrel;have Bz:w1.heap.size<=wr:=o9.kept.size;have iO:∀q,q<w.heap.size->wr.heap[q]?=w.heap[q]?:=λq h=>(o9.kept.block q zO zO).trans (nK.block q h);by_cases aN:i<en
 ·have gJ:=zT1 (i<en);have her:bM wr (· <w) 1 (elems.map nU) eA en:=HE.keep λq hq=>⟨hq,iO q hq⟩;obtain⟨ob,off,xl,Ax,nx,cx,HX,hxn,aI,GI,dO⟩:=her.Uk aN ec;obtain⟨wo,X3⟩:=zE wr;subst X3
  have jC:(elems.take (i+1)).flatten=(elems.take i).flatten++xl:=by
   rw[List.take_add_one,HX.out,Option.toList_some,List.flatten_append];simp
  have hxt:(elems.take i).flatten.length+xl.length<=elems.flatten.length:=by
   rw[<-List.length_append,<-jC]
   conv=>rhs;rw[<-List.take_append_drop (i+1) elems,List.flatten_append,List.length_append]
   omega
  have FD:nx=xl.length:=aI.1;obtain⟨lM,HMI,Eg,ads,qV,HXT,O8⟩:=zJ7 aI BZ o9 iO jC hxt FD;clear aI BZ o9 iO her jC hxt FD;go_wp2_with fail
  go_loopw [22] (λsk W=>∃(k:Nat) (u1 u2:Value),k<=nx/\sk= k/\sN W w w ((elems.take i).flatten++xl.take k) (((elems.take i).flatten++xl.take k).map (·.1)) u1 u2/\jH w w wo W)
   (λsk _=>nx - (intOf sk).toNat)
  case atStart=>exact⟨0,_,_,zO,rfl,by simpa using HMI.out,jH.refl _ _ _⟩
  obtain⟨k,t1,t2,hk,rfl,kV,FN⟩:=hrel;have aCI:wo.heap.size<=wr:=FN.kept.size;have TY:∀q,q<w.heap.size->wr.heap[q]?=wo.heap[q]?:=λq h=>FN.kept.block q zO zO;by_cases Dt:k<nx
  ·have jc:=zT1 (k<nx);have CE:aY wr (· <w) 2 dK xl Ax nx:=lM.keep λq hq=>⟨hq,TY q hq⟩;obtain⟨b2,ahT,y1,y2,HY,p0,p1,hiy⟩:=CE.name Dt cx;obtain⟨w4,vV,S4,IX,aX⟩:=af wr (Zc #[y1,y2] 23);obtain⟨z0,z1⟩:=dw S4
   have hlen:((elems.take i).flatten++xl.take k).length<900000:=by
    rw[List.length_append,Ju];have:=HXT.out;have:=JR.out;have:=O8.out;omega
   have rY:=name_any w w _ _ t1 t2 y1 y2 w4 (kV.below aX) zO (by rw[List.length_map];omega) zO
   have Di:((elems.take i).flatten++xl.take (k+1))=((elems.take i).flatten++xl.take k)++[(y1,y2)]:=by
    rw[List.take_add_one,HY.out,Option.toList_some,d7]
   have hm4:=kV.below aX;obtain⟨HNM,RF,GZ,Sr⟩:=zK4 (zH rY) (zH Di) (zH hm4) (zH (FN.trans (jH.of_below aX)));clear rY Di hm4 FN kV hlen CE TY S4
   go_wp2_with (go_at_call 117;refine HNM.mono ?_;rintro e w5 ⟨rfl,u3,u4,h5,h6⟩;have H5:=zH h5;have H6:=zH (jH.Y0 GZ h6);clear h5 h6)
   go_roundw
   case rel=>exact⟨k+1,u3,u4,zO,by go_num,by rw[RF.out,Qb];exact H5,Sr.trans H6⟩
   simp[intOf];omega
  have jc:=zT2 (k<nx);have jo:xl.take k=xl:=l8 (by rw[<-O8.out];omega);rw[jo,<-qV.out] at kV;obtain⟨xy,Sr⟩:=zJ2 kV FN;clear kV FN jo;go_wp2_with fail;go_roundw
  case rel=>exact⟨i+1,t1,t2,zO,by go_num,xy,Eg.trans Sr⟩
  simp[intOf];omega
 have gJ:=zT2 (i<en);have jo:elems.take i=elems:=l8 (by rw[<-WA.out];omega);rw[jo] at BZ;obtain⟨wo,X3⟩:=zE wr;subst X3;obtain⟨HMI,Eg,ads⟩:=zJ3 BZ o9 iO;clear BZ o9 iO jo;go_wp2_with fail
 go_loopw [33] (λsk W=>∃(k:Nat) (u1 u2:Value),k<=ln/\sk= k/\sN W w w (elems.flatten++(ps.take k).flatMap DC) (elems.flatten.map (·.1)++(ps.take k).flatMap DF) u1 u2/\jH w w wo W)
  (λsk _=>ln - (intOf sk).toNat)
 case atStart=>exact⟨0,_,_,zO,rfl,by simpa using HMI.out,jH.refl _ _ _⟩
 obtain⟨k,t1,t2,hk,rfl,kV,FN⟩:=hrel;have aCI:wo.heap.size<=wr:=FN.kept.size;have TY:∀q,q<w.heap.size->wr.heap[q]?=w.heap[q]?:=λq h=>(FN.kept.block q zO zO).trans (ads q h);by_cases Dt:k<ln
 ·have jc:=zT1 (k<ln);have CE:bM wr (· <w) 12 (ps.map aZ) lA ln:=HP.keep λq hq=>⟨hq,TY q hq⟩;obtain⟨b,off,px,y0,y1,y2,y3,y4,y5,y6,y7,y8,y9,y10,y11,HX,eG,z0,z1,z2,z3,z4,z5,z6,z7,z8,z9,nZ,og,dO⟩:=CE.DW Dt lc;obtain⟨kx,gU,gz,gZ,ig,ik,iq,iw,iy,iC,iD,iE,iF,iG,iH,Ax,nx,cx,fJ,-⟩:=aW eG;simp only[i7,and_true] at fJ;obtain⟨rfl,rfl,rfl,rfl,rfl,rfl,rfl,rfl,rfl,rfl,rfl,rfl⟩:=fJ;obtain⟨w4,vV,S4,IX,aX⟩:=zP1 wr kx gU gz gZ ig ik iq iw iy iC iD iE iF iG iH Ax nx cx;obtain⟨x0,xw,qw⟩:=zK3 (aj S4) (Ye HX) (zQ (ps.take k));rw[Ci,Cj] at qw;have ael:au w4 (· <w) (aZ px) [kx,gU,gz,gZ,ig,ik,iq,iw,(iy,iC,iD),(iE,iF,iG),iH,(Ax,nx,cx)]:=eG.keep λq hq=>⟨hq,aX.block q zO⟩;have yC:=aek w w (· <w) (λq hq=>⟨hq,zO⟩) px _ _ _ t1 t2 w4 ael (kV.below aX) (by rw[List.length_append];have:=JR.out;omega) (by rw[List.length_append,List.length_map];have:=JR.out;omega) zO;rw[d7,d7,<-take_snoc HX,<-take_snoc HX] at yC;have RY:=zH yC;have Sr:=zH (FN.trans (jH.of_below aX));clear yC FN kV aX eG ael CE xw qw S4 TY
  go_wp2_with (go_at_call 118;refine RY.mono ?_;rintro e w5 ⟨rfl,u3,u4,h5,h6⟩;have H5:=zH h5;have H6:=zH h6;clear h5 h6)
  go_roundw
  case rel=>exact⟨k+1,u3,u4,zO,by go_num,H5,Sr.trans H6⟩
  simp[intOf];omega
 have jc:=zT2 (k<ln);have jo:ps.take k=ps:=l8 (by rw[<-HPL.out];omega);rw[jo] at kV;obtain⟨N,hN⟩:=zF (elems.flatten++ps.flatMap DC);obtain⟨S,hS⟩:=zF (elems.flatten.map (·.1)++ps.flatMap DF)
 have hlp:mZ elems ps=⟨N.foldl sF [],S.foldl qy []⟩:=by
  unfold mZ adC adD;rw[Ci,Cj,hN,hS]
 have Az:=zQ ps;rw[Ci,Cj] at Az;have hNl:N.length<900000:=(by rw[<-hN,List.length_append];have:=JR.out;omega);have hSl:S.length<900000:=(by rw[<-hS,List.length_append,List.length_map];have:=JR.out;omega);rw[hN,hS] at kV;obtain⟨A1,c1,rfl⟩:=kV.ql.form;obtain⟨A2,c2,rfl⟩:=kV.oK.form;have d0:=dw kV.blk;have eu:=alC Eg FN;have lY:w1.heap.size<=wr:=eu.kept.size;have Di:=ais w N _ wr kV.ql zO zO;obtain⟨RF,xy,G9,HLP,Du,Td⟩:=zJ6 Di kV eu hlp hNl hSl;clear Di kV eu hlp hNl hSl FN TY Az hN hS jo
 go_wp2_with (first
  | (go_at_call 119;refine RF.mono ?_
     rintro e w4 ⟨rfl,ns,RJ,zo,Ed,CY⟩;have IX:wr.heap.size<=w4:=CY.size;have hm4:qE w4 w w (A1,N.length,c1) (A2,S.length,c2) ns S (A1,N.length,c1) (A2,S.length,c2):=⟨(CY.block _ (aC xy.blk) (λe=>(xy.ne.1 _ e.symm).1 rfl)).trans xy.blk,Ed,xy.oK.bu λq hq=>CY.block q (xy.oK.block_lt hq).2 (λe=>(xy.ne.1 q e.symm).2 hq)⟩;clear d0;have d0:=dw hm4.blk;have hcn:=ad9 w ns _ w4 Ed (by rw[RJ.length_eq];have:=Du.out;omega);rw[ad6 RJ zo] at hcn;have pF:=zH hcn;have GZ:=zH hm4;have HK4:=zH ((G9.kept).trans (abB xy.ql CY))
     clear hcn hm4 CY Ed zo RJ)
  | (go_at_call 121;refine pF.mono ?_
     rintro e w5 ⟨v5,rfl,RZ,Pg,bg⟩;have IY:w4.heap.size<=w5:=Pg.size;obtain⟨P1,D1,rfl⟩:=RZ.form;obtain⟨m1,iY⟩:=zF ((N.foldl sF []).length);rw[iY] at RZ bg ⊢;have hm5:qE w5 w w (A1,N.length,c1) (A2,S.length,c2) (N.foldl sF []) S (P1,m1,D1) (A2,S.length,c2):=⟨(Pg.block _ (aC GZ.blk) (λe=>(GZ.ne.1 _ e.symm).1 rfl)).trans GZ.blk,RZ,GZ.oK.bu λq hq=>Pg.block q (GZ.oK.block_lt hq).2 (λe=>(GZ.ne.1 q e.symm).2 hq)⟩;clear d0;obtain⟨t0,t1⟩:=dw hm5.blk;have f0:=k8 w5 w 0 _ _ hm5.blk;have UE:=hm5.fin1;have d0:=dw UE.blk;have hss:=alk w S _ (w5.setCell w (P1,m1,D1)) UE.oK (by have:=Td.out;omega);obtain⟨HSS,Eb,Rk,avp⟩:=zK4 (zH hss) (zH UE) (zH (((HK4.out).trans (abB GZ.ql Pg)).setCell (p:=w) (.inl (.inl rfl)) (P1,m1,D1))) (zH iY)
     clear hss hm5 UE Pg RZ bg iY)
  | (go_at_call 122;refine HSS.mono ?_
     rintro e w7 ⟨rfl,ns7,RJ,zo,ho7,hg7⟩;have hm7:qE w7 w w (P1,m1,D1) (A2,S.length,c2) (N.foldl sF []) ns7 (P1,m1,D1) (A2,S.length,c2):=⟨(hg7.block _ (aC Eb.blk) (λe=>Eb.ne.2 _ e.symm rfl)).trans Eb.blk,Eb.ql.bu λq hq=>hg7.block q (Eb.ql.block_lt hq).2 (λe=>(Eb.ne.1 q hq).2 e.symm),ho7⟩;clear d0;have d0:=dw hm7.blk;have fJ:=ad5 w ns7 _ w7 ho7 (by rw[RJ.length_eq];have:=Td.out;omega);rw[ad7 RJ zo] at fJ;have HCS:=zH fJ;have Q9:=zH hm7;have HK7:=zH ((Rk.out).trans (abB Eb.oK hg7))
     clear fJ hm7 hg7 ho7 zo RJ)
  | (go_at_call 123;refine HCS.mono ?_
     rintro e w8 ⟨v8,rfl,MJ,hg8,eX⟩;obtain⟨P2,D2,rfl⟩:=MJ.form;obtain⟨m2,nJ⟩:=zF ((S.foldl qy []).length);rw[nJ] at MJ eX ⊢;have hm8:qE w8 w w (P1,m1,D1) (A2,S.length,c2) (N.foldl sF []) (S.foldl qy []) (P1,m1,D1) (P2,m2,D2):=⟨(hg8.block _ (aC Q9.blk) (λe=>Q9.ne.2 _ e.symm rfl)).trans Q9.blk,Q9.ql.bu λq hq=>hg8.block q (Q9.ql.block_lt hq).2 (λe=>(Q9.ne.1 q hq).2 e.symm),MJ⟩;clear d0;obtain⟨r0,f1,HM8,HK8,avr⟩:=zK5 (dw hm8.blk) (k8 w8 w 1 _ _ hm8.blk) (zH hm8) (zH (((HK7.out).trans (abB Q9.oK hg8)).setCell (p:=⟨w,1,none⟩) (.inl (.inl rfl)) (P2,m2,D2))) (zH nJ)
     clear hm8 hg8 MJ eX nJ))
 go_ret;have hF:=HM8.fin2;have dY:Bw w (w8.setCell (w,1) (P2,m2,D2)):=nK.trans (HK8.below zO zO);refine⟨w,P1,m1,D1,P2,m2,D2,rfl,?_,dY⟩;rw[HLP.out];refine⟨hF.blk,?_,?_,?_,?_⟩
 ·obtain⟨X,Y,e1,hr,-,-⟩:=hF.ql.row wX zD;rw[avp.out] at e1 hr;simp only[i6] at e1;obtain⟨rfl,-⟩:=e1;exact hr.imp λq hq=>hq.2
 ·obtain⟨X,Y,e1,hr,-,-⟩:=hF.oK.row Ii zD;rw[avr.out] at e1 hr;simp only[i6] at e1;obtain⟨rfl,-⟩:=e1;exact hr.imp λq hq=>hq.2
 ·rw[<-avp.out];have h2:=Du.out;have h1:=Gw N [];rw[z24] at h1;omega
 rw[<-avr.out];have h2:=Td.out;have h1:=Gz S [];rw[z24] at h1;omega
