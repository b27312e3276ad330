import Derived.Test.YtgmnnegfndpakaaGreatDoorO2
set_option maxHeartbeats 20000000
set_option maxRecDepth 100000
namespace Go.Proofs.YtgmnnegfndpakaaGreatDoor
open Go.RowKit Go.Proofs.Tryz
def aW8(elems:List (List Nm))(p:aJ):Prop:=∀(num:Nat),num+dh p<=50->∀(u:List Nm) (W:World) (cs:List Value) (eA:Option Addr) (en ec:Nat) (alH:Option Addr) (un uc:Nat),aGK W p elems cs eA en->aY W (· <W) 2 dK u alH un->un<=4->un<=uc->
 Cl 38 #[.agg cs.toArray,(eA,en,ec),(alH,un,uc),num,p.mn,p.mx] W (aGL (ajt (Gf elems) p num p.mn p.mx u) W)
def aW9(elems:List (List Nm))(l:List aJ)(num:Nat):Prop:=∀(u:List Nm) (w:World) (A:Option Addr) (n c:Nat) (eA:Option Addr) (en ec:Nat) (alH:Option Addr) (un uc:Nat),bM w (· <w) 12 (l.map aZ) A n->n<=c->ajk w l A->bM w (· <w) 1 (elems.map nU) eA en->aY w (· <w) 2 dK u alH un->un<=4->un<=uc->
 Cl 158 #[(A,n,c),(eA,en,ec),(alH,un,uc),num] w (aGL (ajV (Gf elems) l num u) w)
theorem bM.aXb{w:World}{F:Nat->Prop}{sz:Nat}{e:List D}{es:List (List D)}{A:Option Addr}{n c:Nat}(h:bM w F sz (e::es) A n)(hc:n<=c):bM w F sz es (if c=1 then A else A.map (·.add (1*sz))) (n - 1):=by
 have hn:n=es.length+1:=h.1;refine⟨zO,λhp=>?_⟩;obtain⟨b,off,h1,h2,h3⟩:=h.2 zO;rw[bK] at h3;rw[j5 zO,h1];exact⟨b,off+1*sz,by simp[Addr.add],h2,by rw[Nat.one_mul];exact h3.2⟩
def afP(acc:aJ->Nm->Bool)(x:aJ)(l:List aJ)(num:Nat)(u:List Nm)(i:Nat)(s:List Nat):Prop:=∃j,j<i/\j<=u.length/\∃f r,s=f++r/\ajt acc x num x.mn x.mx (u.take j) f/\ajV acc l (num+dh x) (u.drop j) r
section
variable {acc:aJ->Nm->Bool} {x:aJ} {l:List aJ} {num i:Nat} {u:List Nm} {s:List Nat}
theorem aQb:¬afP acc x l num u 0 s:=λ⟨_,h,_⟩=>Nat.not_lt_zero _ h
theorem aQj(h:∀f,¬ajt acc x num x.mn x.mx (u.take i) f):afP acc x l num u (i+1) s↔afP acc x l num u i s:=by
 constructor
 ·rintro⟨j,h1,h2,f,r,h4,h5,h6⟩;by_cases e:j=i
  ·subst e;exact absurd h5 (h f)
  exact⟨j,zO,h2,f,r,h4,h5,h6⟩
 rintro⟨j,h1,h2⟩;exact⟨j,zO,h2⟩
theorem aQq{F R:List (List Nat)}(hi:i<=u.length)(hF:∀s,s∈F↔ajt acc x num x.mn x.mx (u.take i) s)(hR:∀s,s∈R↔ajV acc l (num+dh x) (u.drop i) s):
 InA (afP acc x l num u i) F R F.length s↔afP acc x l num u (i+1) s:=by
 rw[aRG];constructor
 ·rintro (⟨j,h1,h2⟩ | ⟨x,y,h1,h2,e⟩)
  ·exact⟨j,zO,h2⟩
  exact⟨i,zO,hi,x,y,e,(hF x).1 h1,(hR y).1 h2⟩
 rintro⟨j,h1,h2,f,r,h4,h5,h6⟩;by_cases e:j=i
 ·subst e;exact .inr ⟨f,r,(hF f).2 h5,(hR r).2 h6,h4⟩
 exact .inl ⟨j,zO,h2,f,r,h4,h5,h6⟩
theorem aQr:afP acc x l num u (u.length+1) s↔ajV acc (x::l) num u s:=by
 rw[aYN];constructor
 ·rintro⟨j,_,h2,h3⟩;exact⟨j,h2,h3⟩
 rintro⟨j,h2,h3⟩;exact⟨j,zO,h2,h3⟩
theorem aLB(h:ajV acc l num u s):s.length=u.length:=avq h
theorem aS0(hn:num+dZ (x::l)<=50)(h:afP acc x l num u i s):Gd u.length s:=by
 rw[dZ] at hn;obtain⟨j,_,h2,f,r,rfl,h5,h6⟩:=h;refine⟨by rw[z5,aYV h5,aLB h6,Ju,List.length_drop];omega,λx hx=>?_⟩
 rcases z12.1 hx with hx | hx
 ·have:=aYX h5 x hx;omega
 have:=aYZ h6 x hx;omega
end
theorem aS2(elems:List (List Nm)):∀(l:List aJ) (num:Nat),num+dZ l<=50->(∀x∈l,aW8 elems x/\bT (elems.length:Int) false x=true)->aW9 elems l num
 | [],num,_,_=>by
   intro u w A n c eA en ec alH un uc hA hc hK hE hu JL huc;have h0:n=0:=hA.1;subst h0;have hd:decide (((0:Nat):Int)=0)=true:=zS4;have hdb:(((0:Nat):Int)==0)=true:=zS4;have hlen:un=u.length:=hu.1;by_cases hu0:un=0
   ·subst hu0;have EI:u=[]:=g9 hlen.symm;subst EI;obtain⟨w1,bI,S1,nC,ai⟩:=af w (Zc #[()] 58);have HP:Hid (aGL (ajV (Gf elems) [] num []) w (.returned (w,0,1,1)) w1):=zH ⟨_,[[]],rfl,⟨[⟨none,0,0⟩],⟨rfl,.inr ⟨_,1,_,rfl,zR _,S1,zR _,by unfold maxLen;omega,rfl,rfl⟩⟩,qg.snoc qg.nil (ax.nil _ _ _ _ _)⟩,zP,λs=>by rw[og,aYT];exact⟨λh=>⟨rfl,h⟩,λh=>h.2⟩,ai⟩;clear hA hE hu S1 ai nC hlen;go_enter func158,ntmps158;go_wp2_with fail;go_ret;exact HP
   have jc:=zT2 ((un:Int)=0);have aPa:((un:Int)==0)=false:=zS1;have HP:Hid (aGL (ajV (Gf elems) [] num u) w (.returned ()) w):=zH ⟨_,[],rfl,SqI.nil,.nil,λs=>by rw[aYT];exact⟨λh=>(by cases h),λh=>absurd (by rw[hlen,h.1];rfl) hu0⟩,j9 _ _⟩;clear hA hE hu hlen;go_enter func158,ntmps158;go_wp2_with fail;go_ret;exact HP
 | x::l,num,lQ,hl=>by
   intro u w A n c eA en ec alH un uc hA hc hK hE hu JL huc;have hlen:n=l.length+1:=(by have:=hA.1;rwa [z8] at this);have hul:un=u.length:=hu.1;have Dc:num+dh x<=50/\num+dh x+dZ l<=50:=(by rw[dZ] at lQ;omega);have HX:=zH (hl x (List.mem_cons_self ..));have HI:=zH (aS2 elems l (num+dh x) Dc.2 λy hy=>hl y (Zb _ hy));obtain⟨b,off,p,v0,v1,v2,v3,v4,v5,v6,v7,v8,v9,v10,v11,HP,eG,z0,z1,z2,z3,z4,z5,z6,z7,z8,z9,nZ,og,dO⟩:=hA.aQm hK (i:=0) zO c;obtain rfl:x=p:=zI HP.out;simp only[Nat.zero_mul,Qf] at z0 z1 z2 z3 z4 z5 z6 z7 z8 z9 nZ og;have amx:∀W,(Instr.indexAt 27 (A,n,c) (0:Int)).run prog W= .ok (b,off) W:=(by simpa using dO);clear dO;obtain⟨k,mn,mx,el,ck,ns,nl,sp,A1,n1,c1,A2,n2,c2,pr,A0,n0,c0,fJ,-,vH,l9,-⟩:=aW eG.1;simp only[i7,and_true] at fJ;obtain⟨rfl,rfl,rfl,rfl,rfl,rfl,rfl,rfl,rfl,rfl,rfl,rfl⟩:=fJ;have HCD:Hid (∀V,Bw w V->(V.cell? (b,off)=k/\V.cell? (b,off+1)=mn/\V.cell? (b,off+2)=mx/\V.cell? (b,off+3)=el/\V.cell? (b,off+4)=ck/\V.cell? (b,off+5)=ns/\V.cell? (b,off+6)=nl/\V.cell? (b,off+7)=sp/\V.cell? (b,off+8)=(A1,n1,c1)/\V.cell? (b,off+9)=(A2,n2,c2)/\V.cell? (b,off+10)=pr/\V.cell? (b,off+11)=(A0,n0,c0))):=zH λV hV=>⟨(hV.cell (j8 w _ z0)).trans z0,(hV.cell (j8 w _ z1)).trans z1,(hV.cell (j8 w _ z2)).trans z2,(hV.cell (j8 w _ z3)).trans z3,(hV.cell (j8 w _ z4)).trans z4,(hV.cell (j8 w _ z5)).trans z5,(hV.cell (j8 w _ z6)).trans z6,(hV.cell (j8 w _ z7)).trans z7,(hV.cell (j8 w _ z8)).trans z8,(hV.cell (j8 w _ z9)).trans z9,(hV.cell (j8 w _ nZ)).trans nZ,(hV.cell (j8 w _ og)).trans og⟩;have Ee:Hid (Cl 35 #[.agg (o5 k mn mx el ck ns nl sp A1 n1 c1 A2 n2 c2 pr A0 n0 c0),num] w (ayL w w (aaj x num) (num+dh x))):=zH (aKV _ x false HX.2 _ w w num (zR _) eG.1 zO);obtain⟨HA,HK,HE,HU,Ph,pR,HUL,acC⟩:=zJ8 hA hK hE hu eG hlen hul lQ;obtain⟨HNP,ZZ,JU,HUN⟩:=zJ4 Dc vH l9 JL;have hd:=zT2 ((n:Int)=0);have hdb:((n:Int)==0)=false:=zS1;clear hl hA hK hE hu eG hlen hul HP lQ Dc vH l9;go_enter func158,ntmps158;go_wp2_with fail;refine Ee.mono ?_;rintro e w1 ⟨vl,xs,rfl,-,-,ai⟩;have nK:=zH ai;clear ai z0 z1 z2 z3 z4 z5 z6 z7 z8 z9 nZ og;go_wp2_with fail
   go_loopw [11,12] (λso si W=>∃(i:Nat) (ls:List (List Nat)) (oA:Option Addr) (a6D a6E:Nat),i<=un+1/\so= (oA,a6D,a6E)/\si= i/\Hid (SqI W w1 ls (oA,a6D,a6E)/\ls.Nodup/\∀s,s∈ls↔afP (Gf elems) x l num u i s)/\Bw w1 W) (λ_ si _=>un+1 - (intOf si).toNat)
   case atStart=>exact⟨0,[],none,0,0,zO,rfl,rfl,zH ⟨SqI.nil,.nil,λs=>⟨λh=>(by cases h),λh=>absurd h aQb⟩⟩,j9 _ _⟩
   obtain⟨i,ls,oA,a6D,a6E,hi,rfl,rfl,HO,dU⟩:=hrel;have HBR:=zH dU;have nG:=zH (nK.seq dU);clear dU;by_cases aN:i<=un
   rotate_left 1
   ·obtain rfl:i=un+1:=zO;have sZ:decide (((un+1:Nat):Int)<=(un:Int))=false:=zS1;have HPO:Hid (aGL (ajV (Gf elems) (x::l) num u) w (.returned (oA,a6D,a6E)) wr):=zH ⟨_,ls,rfl,HO.1.a0T nK.size,HO.2.1,λs=>by rw[HO.2.2 s,HUL.out];exact aQr,nG.out⟩;go_wp2_with fail;go_ret;exact HPO
   have sZ:=zT1 ((i:Int)<=(un:Int))
   have ZU:Hid (∀W,Bw w W->Cl 38 #[.agg (o5 k mn mx el ck ns nl sp A1 n1 c1 A2 n2 c2 pr A0 n0 c0),(eA,en,ec),(alH,i,uc),num,mn,mx] W (aGL (ajt (Gf elems) x num x.mn x.mx (u.take i)) W)):=zH λW hb=>by
    have h1:=HX.1 num HNP.1;rw[ZZ.out,JU.out] at h1;rw[ZZ.out,JU.out];exact h1 (u.take i) W _ eA en ec alH i uc ⟨Ph.1.keepW hb,Ph.2.keepW hb,HE.keepW hb⟩ ((HU.keepW hb).hi aN) zO zO
   have Xa:Hid (∀W,Bw w W->Cl 158 #[((if c=1 then A else A.map (·.add (1*12))),n - 1,c - 1),(eA,en,ec),((if uc=i then alH else alH.map (·.add (i*2))),un - i,uc - i),((num+dh x:Nat):Int)] W (aGL (ajV (Gf elems) l (num+dh x) (u.drop i)) W)):=zH λW hb=>
    HI (u.drop i) W _ _ _ eA en ec _ _ _ (bM.aXb (HA.keepW hb) hc) zO (ajk.tail (HK.keepW hb) (by obtain⟨b0,o0,h0,-⟩:=HA.2 (by have:=pR.out;omega);exact⟨b0,o0,h0⟩) (by rcases i8 1 c with h | h;exact .inl h;exact .inr (g9 (by have:=pR.out;omega)))) (HE.keepW hb) ((HU.keepW hb).lo (c:=uc) aN huc) zO zO
   have hi1:(0:Int)<=(i:Int):=zO;have hj1:(1:Int)<=(n:Int):=(by have:=pR.out;omega);have hj2:(1:Int)<=(c:Int):=zO;have hi2:(i:Int)<=(uc:Int):=zO;have jI:(i:Int)<=(un:Int):=zO;have hHeld:=HCD wr.drew nG.drew;go_wp2_with fail;refine ah.stN HCD 17 ?_;refine ah.tk 0 hHeld ?_;refine ah.tk 1 hHeld ?_;refine ah.tk 2 hHeld ?_;refine ah.tk 3 hHeld ?_;refine ah.tk 4 hHeld ?_;refine ah.tk 5 hHeld ?_;refine ah.tk 6 hHeld ?_;refine ah.tk 7 hHeld ?_;refine ah.tk 8 hHeld ?_;refine ah.tk 9 hHeld ?_;refine ah.tk 10 hHeld ?_;refine ah.tk 11 hHeld ?_;refine ah.tk 12 hHeld ?_;refine ah.tk 13 hHeld ?_;refine ah.tk 14 hHeld ?_;refine ah.tk 15 hHeld ?_;refine ah.on 16 λK hK=>?_;go_simp;refine (ZU wr.drew nG.drew).mono ?_;rintro e aSe ⟨vF,F,rfl,hsF,hnF,hmF,hbF⟩;obtain⟨fA,fc,hvF⟩:=hsF.form;obtain⟨fn,hlF⟩:=zF F.length;rw[hlF] at hvF;subst hvF;have aG3:Hid (Bw w1 aSe):=zH (HBR.drew.seq hbF);have a1J:Hid (Bw w aSe):=zH (nG.drew.seq hbF);obtain⟨HSF,HNF,HMF,HBF,HFN⟩:=zJ5 hsF hnF hmF hbF hlF.symm;clear hsF hnF hmF hbF hlF hHeld;refine di hK (λ_=>HCD _ a1J) ?_;clear hK K;refine ah.oe 17 ?_;refine ah.dn ?_;by_cases hf0:fn=0
   ·have DZ:Hid (SqI aSe w1 ls (oA,a6D,a6E)/\ls.Nodup/\∀s,s∈ls↔afP (Gf elems) x l num u (i+1) s):=zH ⟨HO.1.below ((j9 _ _).drew.seq HBF),HO.2.1,λs=>(HO.2.2 s).trans (aQj (λf hf=>by
     have h1:=(HMF f).2 hf;rw[g9 (HFN.symm.trans hf0)] at h1
     cases h1)).symm⟩
    subst hf0;have FU:decide (((0:Nat):Int)=0)=true:=zS4;have a1K:(((0:Nat):Int)==0)=true:=zS4;go_wp2_with fail;go_roundw
    case rel=>exact⟨i+1,ls,oA,a6D,a6E,zO,rfl,by go_num,DZ,aG3⟩
    simp[intOf];omega
   have FU:=zT2 ((fn:Int)=0);have a1K:((fn:Int)==0)=false:=zS1;obtain⟨uB,huB⟩:=zF ((if uc=i then alH else alH.map (·.add (i*2))));obtain⟨aTs,haB⟩:=zF ((if c=1 then A else A.map (·.add (1*12))));rw[huB,haB] at Xa;have aTq:(if c=1 then A else A.map λx=>((x.block,x.off+12):Addr))=aTs:=haB;have hHeld:True:=trivial;go_wp2_with fail;refine ah.start (λV=>True) 8 zK ?_;refine ah.tk 0 hHeld ?_;refine ah.tk 1 hHeld ?_;refine ah.tk 2 hHeld ?_;refine ah.tk 3 hHeld ?_;refine ah.tk 4 hHeld ?_;refine ah.tk 5 hHeld ?_;refine ah.tk 6 hHeld ?_;refine ah.on 7 λK hK=>?_;go_simp;refine (Xa aSe.drew a1J.drew).mono ?_;rintro e wD ⟨vR,aO1,rfl,hsR,hnR,hmR,hbR⟩;obtain⟨rA,rc,hvR⟩:=hsR.form;obtain⟨rn,hlR⟩:=zF aO1.length;rw[hlR] at hvR;subst hvR;obtain⟨HSR,HNR,PG,AO,HRN⟩:=zJ5 hsR hnR hmR hbR hlR.symm;clear hsR hnR hmR hbR hlR hHeld;refine di hK (λ_=>trivial) ?_;clear hK K;refine ah.oe 8 ?_;refine ah.dn ?_;clear huB haB aTq;have hAC:wr.drew.heap.size<=aSe.drew:=HBF.size;have HFD:Hid (SqI wD wr.drew F (fA,fn,fc)):=zH (HSF.below ((j9 _ _).drew.seq AO));have HRD:=HSR
   have HGF:Hid (∀s∈F,Gd i s):=zH λs hs=>by
    have h1:=(HMF s).1 hs;have h2:=HNP.1;exact⟨by rw[aYV h1,Ju,<-HUL.out];omega,λx hx=>by have:=aYX h1 x hx;omega⟩
   have JQ:Hid (∀s∈aO1,Gd (un - i) s):=zH λs hs=>by
    have h1:=(PG s).1 hs;have h2:=HNP.2;exact⟨by rw[aLB h1,List.length_drop,<-HUL.out],λx hx=>by have:=aYZ h1 x hx;omega⟩
   have HG0:Hid (∀s,afP (Gf elems) x l num u i s->Gd (i+(un - i)) s):=zH λs hs=>by
    have h1:=aS0 acC hs;rw[<-HUL.out] at h1;rwa [show i+(un - i)=un by omega]
   have hfb:fn<=6250000:=(by rw[HFN.out];exact a4K (by have:=HUN.out;omega) HNF HGF);have JK:rn<=6250000:=(by rw[HRN.out];exact a4K (by have:=HUN.out;omega) HNR JQ);have HN4:Hid (i+(un - i)<=4):=zH (by have:=HUN.out;omega);have HI0:Hid (WyI w1 wr.drew wD wD ls (oA,a6D,a6E) (InA (afP (Gf elems) x l num u i) F aO1 0)):=zH ⟨HO.1.below (((j9 _ _).drew.seq HBF).seq ((j9 _ _).drew.seq AO)),HO.2.1,λs=>(HO.2.2 s).trans a0C.symm,λq hq=>.inl (HO.1.block_lt hq).2,aG3.seq ((j9 _ _).drew.seq AO),λ_ _ _=>rfl,zR _⟩;go_wp2_with fail
   go_loopw [11,15] (λso sa W=>∃(a:Nat) (ls2:List (List Nat)) (oA:Option Addr) (a6D a6E:Nat),a<=fn/\so= (oA,a6D,a6E)/\sa= a/\Hid (WyI w1 wr.drew wD W ls2 (oA,a6D,a6E) (InA (afP (Gf elems) x l num u i) F aO1 a))) (λ_ sa _=>fn - (intOf sa).toNat)
   case atStart=>exact⟨0,ls,oA,a6D,a6E,zO,rfl,rfl,HI0⟩
   rename World=>wo
   obtain⟨a,ls2,oA,a6D,a6E,ha,rfl,rfl,HA⟩:=hrel;by_cases aWo:a<fn
   rotate_left 1
   ·obtain rfl:a=fn:=zO;have hda:=zT2 ((a:Int)<(a:Int));have DZ:Hid (SqI wo w1 ls2 (oA,a6D,a6E)/\ls2.Nodup/\∀s,s∈ls2↔afP (Gf elems) x l num u (i+1) s):=zH ⟨HA.sq,HA.nd,λs=>(HA.mem s).trans (by rw[HFN.out];exact aQq (by rw[<-HUL.out];exact aN) HMF PG)⟩;have HBO:=zH HA.bel;go_wp2_with fail;go_roundw
    case rel=>exact⟨i+1,ls2,oA,a6D,a6E,zO,rfl,by go_num,DZ,HBO⟩
    simp[intOf];omega
   have hda:=zT1 ((a:Int)<(fn:Int));obtain⟨fx,hfx⟩:∃x,F[a]?=some x:=⟨_,z6 (by rw[<-HFN.out];exact aWo)⟩;have HFX:=zH hfx;clear hfx;go_wp2_with fail
   go_loopw [11,16] (λso sb W=>∃(b:Nat) (ls3:List (List Nat)) (pA:Option Addr) (pN pC:Nat),b<=rn/\so= (pA,pN,pC)/\sb= b/\Hid (WyI w1 wr.drew wD W ls3 (pA,pN,pC) (InB (afP (Gf elems) x l num u i) F aO1 a b))) (λ_ sb _=>rn - (intOf sb).toNat)
   case atStart=>exact⟨0,ls2,oA,a6D,a6E,zO,rfl,rfl,zH (HA.congr λs=>a0D.symm)⟩
   rename World=>wi
   obtain⟨b,ls3,pA,pN,pC,hb,rfl,rfl,HB⟩:=hrel;by_cases a1M:b<rn
   rotate_left 1
   ·obtain rfl:b=rn:=zO;have hdb:=zT2 ((b:Int)<(b:Int));have HX:Hid (WyI w1 wr.drew wD wi ls3 (pA,pN,pC) (InA (afP (Gf elems) x l num u i) F aO1 (a+1))):=zH (HB.congr λs=>by rw[HRN.out];exact a0K HFX);go_wp2_with fail;go_roundw
    case rel=>exact⟨a+1,ls3,pA,pN,pC,zO,rfl,by go_num,HX⟩
    simp[intOf];omega
   have hdb:=zT1 ((b:Int)<(rn:Int));obtain⟨fb,fo,fl,aLb,fm,fd,HXF,hfo,hf1,hf2,x0,a5R⟩:=HFD.at_ aWo;obtain⟨rb,ro,rl,rB,rm,rd,HXR,Cf,LV,hr2,y0,aYg⟩:=HRD.at_ a1M;obtain rfl:fl=fx:=zI (HXF.symm.trans HFX);obtain⟨gf,gr,ve⟩:=zK3 (HGF fl (SK HXF)) (JQ rl (SK HXR)) HB.same;have x1:wi.drew.cell? (fb,fo+a)=(aLb,fm,fd):=(ZS (w:=wD) (w':=wi.drew) (ve fb hf1 hf2)).trans x0;have y1:wi.drew.cell? (rb,ro+b)=(rB,rm,rd):=(ZS (w:=wD) (w':=wi.drew) (ve rb (zT hAC LV) hr2)).trans y0;have aWq:ax wi.drew wr.drew 3 1 aV fl (aLb,fm,fd):=hfo.bu λq hq=>ve q (hfo.block_lt hq).1 (hfo.block_lt hq).2;have aWr:ax wi.drew aSe.drew 3 1 aV rl (rB,rm,rd):=Cf.bu λq hq=>ve q (zT hAC (Cf.block_lt hq).1) (Cf.block_lt hq).2;obtain⟨w3,vU,S3,su,az⟩:=af wi.drew (Zc #[] 3);have o3:=a0n S3;have f3:=(aWq.keep az).a0U;rw[<-f3.1] at f3;obtain⟨gA,gn,gc,w4,aSc,o4,CY,-⟩:=EF w3 wi.drew [] fl _ 0 0 o3 aLb fm fd _ f3.2 (by rw[gf.1,z24];omega) az.size 58;rw[d6] at o4;have aX:Below wi.drew wi.drew w4:=az.trans (grown_below o3 az.size CY);have r4:=(aWr.keep aX).a0U;rw[<-r4.1] at r4;obtain⟨kA,kn,kc,w5,aSd,a1N,Pg,-⟩:=EF w4 wi.drew fl rl gA gn gc o4 rB rm rd _ r4.2 (by rw[gf.1,gr.1];omega) aX.size 58;have bg:Below wi.drew wi.drew w5:=aX.trans (grown_below o4 aX.size Pg);have hbi:Bw wi w5:=(j9 _ _).drew.seq bg;have BL:kn=(fl++rl).length:=a1N.a0U.1
   have aDg:Hid (Cl 95 #[(pA,pN,pC),(kA,kn,kc)] w5 λe w'=>∃v',e= .returned v'/\SqI w' w1 (ayI (fl++rl) ls3) v'/\aVy (pA,pN,pC) v' w5 w'):=zH (by
    have hl:∀x∈ls3,Gd (i+(un - i)) x:=λx hx=>a4J HG0 HGF JQ ((HB.mem x).1 hx);have h4:=HN4.out;obtain⟨h5,h6,h7⟩:=zK3 (a4K h4 HB.nd hl) bg.size HB.bel.size
    exact aZ5 ls3 (fl++rl) pA pN pC kA kn kc w5 w1 (HB.sq.below hbi) (a1N.a0T h7) zO (by rw[BL,z5,gf.1,gr.1];omega) (λx hx=>by rw[(hl x hx).1];omega) (zT h7 h6))
   have I7:Hid (w3.cell? (fb,fo+a)=(aLb,fm,fd)/\w3.cell? (rb,ro+b)=(rB,rm,rd)):=zH ⟨(az.cell (j8 _ _ x1)).trans x1,(az.cell (j8 _ _ y1)).trans y1⟩;have Hl:Hid (w4.cell? (fb,fo+a)=(aLb,fm,fd)/\w4.cell? (rb,ro+b)=(rB,rm,rd)):=zH ⟨(aX.cell (j8 _ _ x1)).trans x1,(aX.cell (j8 _ _ y1)).trans y1⟩;have G6:Hid (w5.cell? (fb,fo+a)=(aLb,fm,fd)/\w5.cell? (rb,ro+b)=(rB,rm,rd)):=zH ⟨(bg.cell (j8 _ _ x1)).trans x1,(bg.cell (j8 _ _ y1)).trans y1⟩
   have TC:Hid (∀v' w6,aVy (pA,pN,pC) v' w5 w6->w6.cell? (fb,fo+a)=(aLb,fm,fd)/\w6.cell? (rb,ro+b)=(rB,rm,rd)):=zH λv' w6 h=>by
    obtain⟨dV,h5,h6⟩:=zK3 HB.own bg.size HB.size;have h7:wi.drew=wi.heap.size:=rfl;refine⟨(h.kept.cell (p:=(fb,fo+a)) (show fb<w5.heap.size by omega) λe=>?_).trans G6.1,(h.kept.cell (p:=(rb,ro+b)) (show rb<w5.heap.size by omega) λe=>?_).trans G6.2⟩
    ·rcases dV fb e with h8 | h8<;>omega
    rcases dV rb e with h8 | h8<;>omega
   obtain⟨HBI,HR4,HR5⟩:=zJ3 hbi aSc aSd;clear hfo Cf hf1 hf2 LV hr2 x0 y0 ve aWq aWr o3 f3 aSc o4 CY aX r4 aSd a1N Pg bg hbi BL gf gr S3 su az;go_wp2_with fail;have hHeld:Held (λV=>V.cell? (fb,fo+a)=(aLb,fm,fd)/\V.cell? (rb,ro+b)=(rB,rm,rd)) wi.drew:=⟨x1,y1⟩;refine ah.stH hHeld 13 ?_;refine ah.tk 0 hHeld ?_;refine ah.tk 2 hHeld ?_;refine ah.tk 3 hHeld ?_;refine ah.tk 4 hHeld ?_;refine ah.tk 5 hHeld ?_;refine ah.tk 7 hHeld ?_;refine ah.tk 8 hHeld ?_;refine ah.tk 9 hHeld ?_;refine ah.tk 10 hHeld ?_;refine ah.acF 1 (λ_=>I7) ?_;refine ah.on 6 λK hK=>?_;refine wM rfl (.tmp 79) (.tmp 83) 58 rfl (v1:=.slice (some ⟨wi.drew,0,none⟩) 0 0) (v2:=(aLb,fm,fd)) rfl rfl HR4 ?_;refine di hK (λ_=>Hl) ?_;clear hK K;refine ah.on 11 λK hK=>?_;refine wM rfl (.tmp 84) (.tmp 88) 58 rfl (v1:=(gA,gn,gc)) (v2:=(rB,rm,rd)) rfl rfl HR5 ?_;refine di hK (λ_=>G6) ?_;clear hK K;refine ah.on 12 λK hK=>?_;go_simp;refine aDg.mono ?_;rintro e w6 ⟨v6,rfl,aOZ,aO0⟩;obtain⟨zA,zc,hz6⟩:=aOZ.form;obtain⟨zn,hzn⟩:=zF ((ayI (fl++rl) ls3).length);rw[hzn] at hz6;subst hz6;have HZ:Hid (WyI w1 wr.drew wD w6 (ayI (fl++rl) ls3) (zA,zn,zc) (InB (afP (Gf elems) x l num u i) F aO1 a (b+1))):=zH ((HB.add HBI aOZ aO0).congr λs=>(a0E HFX HXR).symm);have hc6:=TC _ _ aO0;clear aOZ aO0 hzn;refine di hK (λ_=>hc6) ?_;clear hK K;refine ah.oe 13 ?_;refine ah.dn ?_;go_wp2_with fail;go_roundw
   case rel=>exact⟨b+1,ayI (fl++rl) ls3,zA,zn,zc,zO,rfl,by go_num,HZ⟩
   simp[intOf];omega
