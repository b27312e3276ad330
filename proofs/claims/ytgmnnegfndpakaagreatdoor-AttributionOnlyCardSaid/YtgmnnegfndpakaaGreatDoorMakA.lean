import Derived.Test.YtgmnnegfndpakaaGreatDoorH35
import Derived.Test.YtgmnnegfndpakaaGreatDoorH37
set_option maxHeartbeats 20000000
set_option maxRecDepth 100000
namespace Go.Proofs.YtgmnnegfndpakaaGreatDoor
open Go.RowKit Go.Proofs.Tryz
variable{w:World}{g:Nat}{t:TypeId}{fr:Nat×Nat}{v0 v1 v2 v3:Value}
def Yi(w:World)(base:Nat)(a:Aut)(v1 v2 v3 v4:Value):Prop:=
 ∃nA nn nc sA sn sc hs,v1= .slice nA nn nc/\v2= .slice sA sn sc/\aY w (· <w) 2 dK a.names nA nn/\aY w (· <w) 1 mG a.spaces sA sn/\nn<1000000/\sn<1000000/\
  ax w base 4 1 ET a.final v3/\ax w base 58 1 zx hs v4/\qg w base qf hs a.steps
theorem Yi.nil(w:World)(base:Nat):Yi w base nilA () () () ():=
 ⟨none,0,0,none,0,0,[],rfl,rfl,⟨rfl,λh=>by simp[nilA] at h⟩,⟨rfl,λh=>by simp[nilA] at h⟩,zO,zO,ax.nil _ _ _ _ _,ax.nil _ _ _ _ _,qg.nil⟩
theorem blk4(h:w.heap[g]?=some (.cells #[v0,v1,v2,v3] t fr)):w.cell? g=v0/\w.cell? (g,1)=v1/\w.cell? (g,2)=v2/\w.cell? (g,3)=v3:=by
 refine⟨?_,?_,?_,?_⟩<;>rw[Ys w g _ _ _ _ h]<;>rfl
theorem abY{u0 u1 u2 u3:Value}(h:w.heap[g]?=Zc #[u0,u1,u2,u3] t)(v0 v1 v2 v3:Value):((((w.setCell g v0).setCell (g,1) v1).setCell (g,2) v2).setCell (g,3) v3).heap[g]?=Zc #[v0,v1,v2,v3] t:=by
 have h1:=dM (i:=3) (v:=v3) (dM (i:=2) (v:=v2) (dM (i:=1) (v:=v1) (dM (i:=0) (v:=v0) h)));simpa using h1
theorem tV{B:Nat}{w0:World}(h:Below B w0 w)(hg:B<=g)(v0 v1 v2 v3:Value):Below B w0 ((((w.setCell g v0).setCell (g,1) v1).setCell (g,2) v2).setCell (g,3) v3):=
 (((h.setCell (p:=g) hg v0).setCell (p:=⟨g,1,none⟩) hg v1).setCell (p:=⟨g,2,none⟩) hg v2).setCell (p:=⟨g,3,none⟩) hg v3
theorem aix{v4 v5 v6 v7 v8 v9 v10 v11:Value}(h:w.heap[g]?=some (.cells #[v0,v1,v2,v3,v4,v5,v6,v7,v8,v9,v10,v11] t fr)):cu w g 0 [v0,v1,v2,v3,v4,v5,v6,v7,v8,v9,v10,v11]:=λj v hj=>by
 rw[d9,Ys w g _ _ _ _ h];simpa using hj
theorem aoh(p:aJ)(elems:List (List Nm))(cs:List Value)(w:World)(eA:Option Addr)(en ec:Nat)(hr:au w (· <w) (aZ p) cs)(he:bM w (· <w) 1 (elems.map nU) eA en)(jR:en<6000000000000)(hT:Tab w):
 Cl 25 #[.agg cs.toArray,(eA,en,ec)] w λe w'=>∃v1 v2 v3 v4,e= .returned (.tuple #[.agg #[v1,v2,v3,v4],(DJ p elems).2])/\Yi w' w (DJ p elems).1 v1 v2 v3 v4/\Bw w w':=by
 obtain⟨k,mn,mx,el,ck,ns,nl,sp,A1,n1,c1,A2,n2,c2,pr,A0,n0,c0,rfl,hk,-⟩:=aW hr;obtain⟨w1,bI,S1,S0,nC,ai⟩:=zP2 w k mn mx el ck ns nl sp A1 n1 c1 A2 n2 c2 pr A0 n0 c0 (Zc #[(),(),(),()] 51);have e1:w1=w.heap.size+1+1:=(by rw[<-bI];simp);obtain⟨q0,q1,q2,q3,q4,q5,q6,q7,q8,q9,aF,aG⟩:=aj S1;have SE:=BQ elems p _ eA en ec w1 _ _ (hr.below ai) (he.below ai) jR;obtain⟨E,hE⟩:=zF (kN elems p);obtain⟨RR,hR⟩:=zF (DJ p elems);rw[hE] at SE;rw[hR];unfold DJ at hR;rw[hE] at hR;obtain⟨uC,HR,HE,HT,aQ,Jc,Jj,nK⟩:=zJ8 SE hr he hT S1 S0 hE ai;clear SE hr he hT S1 S0 hE;by_cases h0:E=0
 ·subst h0;rw[j5 zP] at hR;have jV:((0:Int) !=0)=false:=zD;have ER:decide ((0:Int)≠0)=false:=zD;obtain⟨aCP,aCQ⟩:=VW Jj;have fQ:=MH Jj;have uw:=FW Jj;obtain⟨m,hm⟩:=zF (eU elems p);obtain⟨a,ha⟩:=zF (mZ elems [p]);obtain⟨lv,vX⟩:=zF (aao m);rw[hm] at hR fQ uw;rw[ha,vX] at hR;have lQ:elems.flatten.length+mF [p]<=10000:=(by rw[mF,mF];omega);have tJ:=Yf lQ;rw[ha] at tJ;obtain⟨jr,wu,HM,HA,Ee,qG,acC,HAL⟩:=zJ8 fQ uw hm ha vX hR lQ tJ;clear fQ uw hm ha vX hR lQ tJ aCP aCQ;go_enter func25,ntmps25
  go_wp2_with (go_at_call 13;refine uC.mono ?_
               rintro e w2 ⟨rfl,ag⟩;have mX:Bw w w2:=nK.seq ag;obtain⟨adS,Lh⟩:=zJ2 mX ag;have uS:w1.heap.size<=w2:=ag.size;clear q0 q1 q2 q3 q4 q5 q6 q7 q8 q9 aF aG;obtain⟨q0,q1,q2,q3,q4,q5,q6,q7,q8,q9,aF,aG⟩:=aj (ae aQ ag)
               clear ag mX)
  have hC4:∀V:World,V.heap[w.heap.size]?=Zc #[k,mn,mx,el,ck,ns,nl,sp,(A1,n1,c1),(A2,n2,c2),pr,(A0,n0,c0)] 29->(V.cell? w=k/\V.cell? (w,1)=mn/\V.cell? (w,2)=mx/\V.cell? (w,3)=el/\V.cell? (w,4)=ck/\V.cell? (w,5)=ns/\V.cell? (w,6)=nl/\V.cell? (w,7)=sp/\V.cell? (w,8)=(A1,n1,c1)/\V.cell? (w,9)=(A2,n2,c2)/\V.cell? (w,10)=pr/\V.cell? (w,11)=(A0,n0,c0)):=λV h=>aj h;have P2:=ae aQ Lh;have hHeld:=hC4 w2.drew P2;obtain⟨w3,vU,S3,su,az⟩:=af w2.drew (Zc #[k,mn,mx,el,ck,ns,nl,sp,(A1,n1,c1),(A2,n2,c2),pr,(A0,n0,c0)] 29);have su:w2.heap.size<w3:=su;have BD:Bw w2 w3:=⟨az.os,az.tape,az.output,az.size,az.block⟩;have P3:=ae P2 BD;have avx:au w3 (· <w) (aZ p) [k,mn,mx,el,ck,ns,nl,sp,(A1,n1,c1),(A2,n2,c2),pr,(A0,n0,c0)]:=HR.below (adS.trans (BD.mono zO))
  have Ih:bM w3 (· <w3) 12 ([p].map aZ) w2 1:=⟨rfl,λ_=>⟨w2,0,rfl,su,by
   rw[List.map_singleton,bK,bK]
   exact⟨⟨_,aix S3,avx.keep λq hq=>⟨by show q<w3;omega,rfl⟩⟩,trivial⟩⟩⟩
  have aN:=U0 elems [p] eA en ec w2 1 1 w3 ((HE.below (adS.trans (BD.mono zO))).keep λq hq=>⟨by show q<w3;omega,rfl⟩) jR Ih zO (by have:=acC.out;omega);rw[HA.out] at aN;obtain⟨HLT,HP3,Hl,anT⟩:=zJ4 aN P3 hC4 BD;clear aN Ih avx P2 P3 hC4 S3 az BD;refine ah.start (λV=>V.cell? w=k/\V.cell? (w,1)=mn/\V.cell? (w,2)=mx/\V.cell? (w,3)=el/\V.cell? (w,4)=ck/\V.cell? (w,5)=ns/\V.cell? (w,6)=nl/\V.cell? (w,7)=sp/\V.cell? (w,8)=(A1,n1,c1)/\V.cell? (w,9)=(A2,n2,c2)/\V.cell? (w,10)=pr/\V.cell? (w,11)=(A0,n0,c0)) 8 zK ?_;refine ah.tk 0 hHeld ?_;refine ah.tk 1 hHeld ?_;refine ah.tk 4 hHeld ?_;refine ah.tk 5 hHeld ?_;refine ah.acF 2 (λ_=>Hl _ HP3) ?_;refine ah.on 3 λK hK=>?_;go_simp;refine HLT.mono ?_;rintro e w4 ⟨ba,nA,nn,nc,sA,sn,sc,rfl,tJ,aX⟩;have aoi:Bw w2 w4:=anT.seq aX;have wU:Bw w w4:=adS.seq aoi;have P4:=ae HP3 aX;have KL:=FP p elems _ w4 eA en ec (HR.keep λq hq=>⟨by have:=wU.size;omega,wU.block q hq⟩) (HE.keep λq hq=>⟨by have:=wU.size;omega,wU.block q hq⟩) jR Jj;rw[HM.out] at KL;obtain⟨HBU,avy,aCR,HP4⟩:=zJ4 KL aoi tJ P4;clear KL aoi tJ P4 wU aX;refine di hK (λ_=>Hl _ HP4) ?_;clear hK K;refine ah.on 6 λK hK=>?_;go_simp;refine HBU.mono ?_;rintro e w5 ⟨bm,rfl,JY,bg,yP⟩;have P5:=ae HP4 bg;have IY:w4.heap.size<=w5:=bg.size;obtain⟨Dj,BU,ayh,HP5⟩:=zK4 (zH JY) (zH bg) (zH (aCR.below bg)) (zH P5);clear JY bg P5 yP;refine di hK (λ_=>Hl _ HP5) ?_;clear hK K;refine ah.acF 7 (λ_=>Hl _ HP5) ?_;refine ah.oe 8 ?_;clear hHeld;refine ah.dn ?_;have ES:Bw w w5:=(adS.seq avy).seq BU;have aCS:w.heap.size<=w5:=ES.size;have DK:=VQ m w5 bm w5 Dj jr (zR _) wu (HT.below ES);have HLI:=zH DK;have aoj:=zH ES;have L8:=@run_makeMap prog;clear DK ES
  go_wp2_with (first
   | (go_at_call 73;refine HLI.mono ?_
      rintro e w6 ⟨gl,rfl,aok,hg6,dQ⟩;have hs6:w5.heap.size<=w6:=dQ.size;rw[Ee.out] at aok;obtain⟨w7,JX,S7,hs7,eP⟩:=af w6 (Zc #[(0:Int)] 3);obtain⟨w8,Kt,S8,hs8,eX⟩:=af w7 (Zc #[(w6,0,1,1)] 58);obtain⟨w9,hw9,S9,hs9,uF⟩:=af w8 (.map #[] 0);have c8:=aO (ae S8 uF);have ho7:=sQ (n:=0) (base:=w6) (ae S7 (eX.seq uF)) (zR _);obtain⟨A',c',ev,aI,-,-⟩:=ho7.row jd zD;simp only[i6] at ev;obtain⟨rfl,-,rfl⟩:=ev;have IV:=EM [0] _ _ 1 w9 _ aI zD (by intro s hs;rw[og] at hs;omega)
      have amx:∀V,(Instr.indexAt 49 (w7,0,1,1) (0:Int)).run prog V= .ok (w7,0) V:=λV=>by
       have e:=dN (P:=prog) 49 58 1 underlying49 (λw=>by kernel_rfl) (rfl:(w7:Option Addr)=w7) 1 1 0 zD V;exact e
      obtain⟨VZ,aol,KH,aiy,G5,HS8,XD⟩:=zK7 (zH IV) (zH aok) (zH dQ) (zH ((eP.seq eX).seq uF)) (zH (ae S7 (eX.seq uF))) (zH (ae S8 uF)) (zH S9)
      clear IV aok dQ eP eX uF S7 S8 S9 ho7 aI)
   | (go_at_call 58;refine VZ.mono ?_
      rintro e oH ⟨rfl,Gp⟩;have aBS:w9.heap.size<=oH:=Gp.size;have M0:Hid (gQ oH w8 lg vM ([]:List (ByteArray×Int))):=zH (ae XD Gp);have ayi:=zH (aiy.seq Gp);have HT7:=zH (ae G5 Gp);have HT8:=zH (ae HS8 Gp)
      clear Gp c8)
   | (with_reducible refine xK rfl (.tmp 45) (.tmp 49) (.const (0:Int)) 126 rfl (et:=3) (val:=vM) TL underlying126 w8 [] rfl M0.out (fH [0]) rfl (0:Int) rfl ?_
      intro KI g1 g2 g3 g4;obtain⟨XH,xC,HG3,zu⟩:=zJ4 g1 g2 g3 g4
      clear g1 g2 g3 g4))
  obtain⟨jD,aom⟩:=zF (xX m a);obtain⟨K,hK⟩:=zF a.size;obtain⟨MK,hMK⟩:=zF (oU jD K 1001 0 [[0]] []);have hRR:=qG.out;rw[aom,hK,hMK] at hRR;have hKb:K<=100000:=(by rw[<-hK];unfold zZ.size;have:=HAL.out;omega);have aiz:Kept (λq=>w6<=q) w6 KI:=(Qh ayi).trans (fE zu λq (e:q=w8)=>by rw[e];omega);have h11:w6.heap.size<=KI:=aiz.size;have aiA:Bw w w6:=aoj.seq KH
  have hI0:uG KI w6 [⟨w6,1,1⟩] [] (w7,0,1,1) () [[0]] []:=by
   have t7:KI.heap[w6.heap.size]?=Zc #[(0:Nat)] 3:=(xC _ zO).trans HT7;have t8:KI.heap[w7.heap.size]?=Zc #[(w6,0,1,1)] 58:=(xC _ zO).trans HT8;refine⟨⟨rfl,.inr ⟨w7,1,#[(w6,0,1,1)],rfl,zO,t8,zR _,zD,rfl,rfl⟩⟩,⟨rfl,λi l h hl hh=>?_⟩,ax.nil _ _ _ _ _,qg.nil,λq hq e=>by simp[Value.ownBlock] at e,λi j x y q _ hx=>by simp at hx,λx hx y hy=>by simp at hy⟩
   cases i with
   | zero=>
     simp only[List.getElem?_cons_zero,l5] at hl hh;subst hl;subst hh;exact sQ t7 (zR _)
   | succ i=>simp at hl
  have hK0:Jr KI w8 [[0]]:=⟨_,XH,acj.start⟩;obtain⟨aon,avz,Sr,xy,HI0,HK0,ayj,GG⟩:=zJ8 hRR aom hK hMK hI0 hK0 aiz aiA;have aiB:Hid (mO w6 w6 bm m):=zH ((Dj.below KH).up hs6);have V5:Hid (yH w6 ba a nA nn nc sA sn sc):=zH (ayh.below KH);have adf:Hid (w6.heap[w.heap.size+1]?=Zc #[(),(),(),()] 51):=zH (ae Jc (((Lh.seq avy).seq BU).seq KH));have hnl:nn<1000000/\sn<1000000:=V5.2.2.2
  have avC:Tf m [[0]]:=λs hs=>by
   rw[og] at hs;subst hs;exact⟨λx hx=>by rw[og] at hx;subst hx;exact jv.zero m,zD⟩
  have aCT:=zH avC;clear hRR aom hK hMK hI0 hK0 aiz aiA avC qG HLI VZ aiy G5 HS8 XD HT7 HT8 XH xC HG3 zu M0 q0 q1 q2 q3 q4 q5 q6 q7 q8 q9 aF aG;have aCU:w8.heap.size<KI:=HK0.lt;obtain⟨wl,hwl⟩:=zF w8.heap.size;rw[hwl] at HK0 aCU ⊢;have h6g:w6<=wl:=zO
  go_loopw [10,12,13] (λs10 s12 QF W=>∃(k:Nat) (hs ht:List Hdr) (sets:List (List Nat)) (rows:List (List Int)),QF= k/\k<=1000/\Hid (Hg w6 W wl m hs ht s10 s12 sets rows)/\Hid (rows.length=k)/\Hid (k<=sets.length)/\Hid (oU jD K (1001 - k) k sets rows=MK)) (λ_ _ QF _=>1001 - (intOf QF).toNat)
  case atStart=>exact⟨0,_,[],_,[],rfl,zO,zH ⟨HI0,HK0,aCT,zP,ayj⟩,zH rfl,zH zP,xy⟩
  rename World=>wo
  obtain⟨k,hs,ht,sets,rows,rfl,avD,Tj,BR,HKL,Pv⟩:=hrel;obtain⟨A10,c10,rfl⟩:=Tj.I.own.form;obtain⟨A12,o5,rfl⟩:=Tj.I.sO.form;obtain⟨n10,LD⟩:=zF hs.length;obtain⟨n12,Gi⟩:=zF ht.length;rw[LD,Gi] at Tj;rw[LD,Gi];have XI:sets.length=n10:=Tj.alG.symm.trans LD;have hob:=Tj.old;have hso:w6.heap.size<=wo:=hob.size;have aIN:Hid (mO wo w6 bm m):=zH (aiB.below hob);have aCV:Hid (yH wo ba a nA nn nc sA sn sc):=zH (V5.below hob);have BL:k<=n10:=(by rw[<-XI];exact HKL);obtain⟨ah6,aiC,Td⟩:=zJ3 LD Gi XI;clear hob LD Gi XI;by_cases aN:k<n10
  ·have jc:=zT1 (k<n10);obtain⟨s,Af⟩:∃s,sets[k]?=some s:=⟨_,z6 (by have:=Td.out;omega)⟩;rw[show 1001 - k=1000 - k+1 by omega] at Pv;have wS:=afk jD K (1000 - k) k Af rows;obtain⟨MR,hMR⟩:=zF (mkRow (jD s) (List.range K) sets []);rw[hMR] at wS;have avE:=zH (wS.symm.trans Pv);obtain⟨PG,HS⟩:=zJ2 hMR Af;clear wS hMR Af Pv
   go_wp2_with (first
    | (go_at_call 62;refine (U4 a ba nA nn nc sA sn sc wo aCV).mono ?_
       rintro e KJ ⟨rfl,Gm⟩;rw[Sr.out];have aIO:wo.heap.size<=KJ:=Gm.size;have HBO:=zH Gm
       clear Gm)
    | (with_reducible refine Ti rfl (.tmp 58) (.tmp 58) rfl w6 K rfl rfl zO zO ?_
       intro wB Y4 jX aCW;have HR0:=zH ((Tj.below HBO).newRow jX Y4)
       clear Y4 jX))
   obtain⟨rb,JK⟩:=zF KJ.heap.size;rw[JK] at HR0 ⊢;clear JK
   go_loopw [10,62] (λs10 s62 W=>∃(Af:List Hdr) (lS:List (List Nat)) (row:List Int) (x:Nat),s62= x/\x<=K/\Hid (MO w6 W wl m Af ht s10 (A12,n12,o5) lS rows rb K row)/\Hid (row.length=x)/\Hid (mkRow (jD s) ((List.range K).drop x) lS row=MR)/\Hid (lS[k]?=s)) (λ_ s62 _=>K - (intOf s62).toNat)
   case atStart=>exact⟨hs,sets,[],0,rfl,zO,HR0,zH rfl,zH (by rw[List.drop_zero];exact PG),HS⟩
   obtain⟨Af,lS,row,x,rfl,hx,Jz,O8,aoo,HSK⟩:=hrel;obtain⟨B10,d10,rfl⟩:=Jz.S.I.own.form;obtain⟨m10,VP⟩:=zF Af.length;rw[VP] at Jz;rw[VP];have aiD:lS.length=m10:=Jz.S.alG.symm.trans VP;have hob:=Jz.S.old;have hsr:w6.heap.size<=wr:=hob.size;have hkm:k<m10:=(by rw[<-aiD];exact(z4.1 HSK).1);obtain⟨LC,Y5,avG⟩:=zJ3 VP aiD hob;have aGQ:m10<=1000:=(by rw[<-aiD];exact Jz.S.L);clear hob VP aiD;by_cases FD:x<K
   ·have sZ:=zT1 (x<K);obtain⟨b1,xU,hA,hn,hc,p0,dO,aI,gX,bZ,aiE⟩:=Jz.S.get HSK hkm LC;obtain⟨sV,lM,HP0⟩:=zJ3 bZ aI p0;clear bZ aI p0;have tJ:=V5.below avG;have hsA:=SI a x ba nA nn nc sA sn sc wr.drew tJ zO;have Df:=zH hsA;clear hsA tJ;obtain⟨nx,xw⟩:=zF (jD s x)
    have oO:(∀y∈nx,jv m y)/\nx.length<=4297:=by
     rw[<-xw,<-avz.out];exact⟨Ir jr sV _,Jp jr sV _⟩
    have wS:=ahS (jD s) FD lS row;rw[xw] at wS;have aiF:=zH (wS.symm.trans aoo);obtain⟨Po,Ky⟩:=zJ2 oO xw;clear wS oO xw aoo;go_wp2_with fail;have hHeld:Held (λV=>V.cell? (b1,xU+k)=(hA,hn,hc)) wr.drew:=HP0;refine ah.stH hHeld 9 ?_;refine ah.tk 0 hHeld ?_;refine ah.tk 1 hHeld ?_;refine ah.tk 2 hHeld ?_;refine ah.tk 3 hHeld ?_;refine ah.tk 4 hHeld ?_;refine ah.tk 5 hHeld ?_;refine ah.tk 6 hHeld ?_;refine ah.on 7 λK hK=>?_;go_simp;refine Df.mono ?_;rintro e w14 ⟨rfl,xW⟩;have xW:Bw wr w14:=⟨xW.os,xW.tape,xW.output,xW.size,xW.block⟩;have aCX:wr.heap.size<=w14:=xW.size;have jm:=Dv m w6 bm s hA hn hc (iJ a x).1 (iJ a x).2 w14 (aiB.below (avG.trans (xW.mono hsr))) jr zO ((lM.below xW).wide (λ_ h=>by omega)) gX (λy hy=>(sV y hy).ok jr) wu;have Fh:lZ m s ((iJ a x).1,(iJ a x).2)=nx:=(by rw[<-Ky.out,<-avz.out];rfl);rw[Fh] at jm;obtain⟨pO,aCY⟩:=zJ2 jm xW;clear jm Fh;refine di hK (λ_=>(xW.cell (p:=(b1,xU+k)) aiE).trans HP0) ?_;clear hK K;clear xW;refine ah.on 8 λK hK=>?_;go_simp;refine pO.mono ?_;rintro e U5 ⟨v16,rfl,V6,Ov⟩;have Ov:Bw wr U5:=aCY.seq Ov;refine di hK (λ_=>(Ov.cell (p:=(b1,xU+k)) aiE).trans HP0) ?_;clear hK K;refine ah.oe 9 ?_;clear hHeld;refine ah.dn ?_;obtain⟨n16,LK⟩:=zF nx.length;obtain⟨A16,c16,rfl⟩:=V6.form;rw[LK] at V6;rw[LK];have hkx:∀y∈nx,y<65536:=λy hy=>jv.key jr (Po.1 y hy);have Y6:=Jz.below Ov;have aHH:n16<=4297:=(by rw[<-LK];exact Po.2);by_cases h0:n16=0
    ·have EI:nx=[]:=g9 (by rw[LK];exact h0);subst h0;have Ef:decide (((0:Nat):Int)=0)=true:=zS4;have jw:tN nx lS=some (lS,-1):=(by unfold tN;rw[j6 EI]);obtain⟨f1,⟨u2,f2⟩,f3,f4⟩:=Y6.store O8 FD (-1);have jC:mkRow (jD s) ((List.range K).drop (x+1)) lS (row++[-1])=MR:=(by have:=aiF.out;rw[jw] at this;exact this);obtain⟨U6,qV⟩:=zJ2 f4 jC;clear f4 jC Y6 V6 jw EI hkx LK;go_wp2_with fail;go_roundw
     case rel=>exact⟨Af,lS,row++[-1],x+1,by go_num,zO,U6,zH (by rw[z5,O8.out];rfl),qV,HSK⟩
     simp[intOf];omega
    have dD:nx≠[]:=λe=>h0 (by rw[<-LK,e];rfl);have Ef:=zT2 ((n16:Int)=0);obtain⟨A',c',ev,Tm,-,-⟩:=V6.row jd zD;rw[LK] at ev Tm;obtain⟨rfl,-,rfl⟩:=z19 ev;have IV:=EM nx A16 n16 c16 U5 _ Tm zO hkx
    cases Vd:qR nx lS 0 with
    | some j=>
      have jw:tN nx lS=some (lS,(j:Int)):=(by unfold tN;rw[j5 dD,Vd]);have jC:mkRow (jD s) ((List.range K).drop (x+1)) lS (row++[(j:Int)])=MR:=(by have:=aiF.out;rw[jw] at this;exact this);obtain⟨qV,Y7,VZ,HKX,V8⟩:=zJ5 jC Y6 IV hkx Vd;clear jC Y6 IV hkx jw dD V6 Tm ev Vd LK
      go_wp2_with (go_at_call 58;refine VZ.mono ?_
                   rintro e xH ⟨rfl,sK⟩;have LM:=Y7.below sK;have pg:=LM.S.K.alF HKX V8;obtain⟨f1,⟨u2,f2⟩,f3,f4⟩:=LM.store O8 FD (j:Int);have U6:=zH f4
                   clear f4 LM sK)
      go_roundw
      case rel=>exact⟨Af,lS,row++[(j:Int)],x+1,by go_num,zO,U6,zH (by rw[z5,O8.out];rfl),qV,HSK⟩
      simp[intOf];omega
    | none=>
      obtain⟨Y7,VZ,HKX,V8,aCZ,aC0,aIP⟩:=zJ7 Y6 IV hkx Vd V6 Tm LK;clear Y6 IV hkx V6 Tm ev Vd LK;by_cases jo:1000<=m10
      ·have PL:=zT1 ((1000:Int)<=(m10:Int));have aC1:=zT1 (1000<=m10);have ayk:(1000:Int)<=(m10:Int):=zO;have jw:tN nx lS=none:=(by unfold tN;rw[j5 dD,V8.out];dsimp only;rw[j6 (by rw[Y5.out];exact jo)])
       have hRR:(nilA,(3:Int))=RR:=by
        have h1:=aiF.out;rw[jw] at h1;have h2:=avE.out;rw[<-h1] at h2;have h3:=aon.out;rw[<-h2] at h3;exact h3
       have HE:=zH hRR;clear hRR jw dD
       go_upto_region 23 with (
                   go_at_call 58;refine VZ.mono ?_;rintro e xH ⟨rfl,sK⟩;have LM:=Y7.below sK;have pg:=LM.S.K.FC HKX V8;have dQ:=LM.S.old
                   clear LM sK)
       have V0:=ae adf dQ;obtain⟨z0,f0,f1,f2,f3⟩:=zK5 (blk4 V0) (k8 xH (w.heap.size+1) 0 _ _ V0) (k8 xH (w.heap.size+1) 1 _ _ V0) (k8 xH (w.heap.size+1) 2 _ _ V0) (k8 xH (w.heap.size+1) 3 _ _ V0)
       iterate 16 go_step
       have VL:=abY V0 () () () ();obtain⟨y0,y1,y2,y3⟩:=blk4 VL;refine Js (LH (Js (LH (Js ?_))));refine Js (LH (Js ?_));refine Qg (P:=prog) (fn:=Tryz.f25) (v:=.tuple #[.agg #[(),(),(),()],(3:Int)]) ?hres ?hdef ?_
       case hdef=>rfl
       case hres=>simp[results,results25,go_sem,y0,y1,y2,y3]
       rw[<-HE.out];exact⟨_,_,_,_,rfl,Yi.nil _ _,tV (GG.trans (dQ.mono (by have:=GG.size;omega))) (Nat.le_succ _) _ _ _ _⟩
      have PL:=zT2 ((1000:Int)<=(m10:Int));have aC1:=zT2 (1000<=m10);have ayk:¬(1000:Int)<=(m10:Int):=zO;have jw:tN nx lS=some (lS++[nx],(m10:Int)):=(by unfold tN;rw[j5 dD,V8.out];dsimp only;rw[j5 (by rw[Y5.out];exact jo),Y5.out]);have jC:mkRow (jD s) ((List.range K).drop (x+1)) (lS++[nx]) (row++[(m10:Int)])=MR:=(by have:=aiF.out;rw[jw] at this;exact this);have qV:=zH jC;clear jC jw dD
      go_wp2_with (first
       | (go_at_call 58;refine VZ.mono ?_
          rintro e xH ⟨rfl,sK⟩;have LM:=Y7.below sK;have pg:=LM.S.K.FC HKX V8;have aqI:=EM nx A16 n16 c16 xH _ ((aC0.wide (F':=(· <U5)) (λ_ h=>h.2)).below sK) zO HKX;have ahM:U5.heap.size<=xH:=sK.size;obtain⟨ayl,aC2⟩:=zJ2 aqI sK
          clear LM sK aqI)
       | (go_at_call 58;refine ayl.mono ?_
          rintro e Yj ⟨rfl,OQ⟩;have abC:Bw U5 Yj:=aC2.seq OQ;obtain⟨L0,hM,BL⟩:=(Y7.below abC).S.K;have aIQ:U5.heap.size<=Yj:=abC.size;obtain⟨M17,HKN,Y8⟩:=zJ3 hM BL abC
          clear pg OQ abC hM BL)
       | (with_reducible refine Lc rfl (.tmp 94) (.tmp 96) (.tmp 97) 126 rfl (et:=3) (val:=vM) TL underlying126 wl L0 rfl M17.out (fH nx) rfl (m10:Int) rfl ?_
          intro MQ g1 g2 g3 g4;obtain⟨uH,aIR,S19,aIS,aiG⟩:=af MQ (Zc #[(A16,n16,c16)] 58);have aop:=Y7.below Y8;have avJ:=(aop.S.I.map M17 g2).own.keep aiG;have aC3:w6.heap.size<=uH:=(by have:=aiG.size;have:=aop.S.kept.size;omega);obtain⟨v20,qi,bG,aoq,fO,jA⟩:=VN uH w6 Af _ avJ MQ 1 ⟨A16,n16,c16⟩ (aO S19) (by rw[LC.out];omega) aC3 49;obtain⟨fA,fc,avK⟩:=aoq.form;rw[z5,TQ,LC.out] at avK;subst avK;have aev:=Jz.add Po.1 Po.2 jr V8 (by rw[Y5.out];omega) aCX (aCZ.keep Y8) (Ov.seq Y8) M17 HKN (by rw[Y5.out];exact g1) g2 g3 g4 aiG aoq fO jA h6g;obtain⟨f1,⟨u2,f2⟩,f3,f4⟩:=aev.store O8 FD (m10:Int);obtain⟨qB,U6⟩:=zJ2 bG f4
          clear g1 g2 g3 g4 S19 aiG aop avJ bG aoq fO jA aev f4)
       | (at_builtin;refine wO rfl (.tmp 98) (.tmp 100) 49 rfl (v1:=(B10,m10,d10)) (v2:=.slice (some ⟨MQ,0,none⟩) 1 1) rfl rfl qB ?_))
      go_roundw
      case rel=>exact⟨Af++[⟨A16,n16,c16⟩],lS++[nx],row++[(m10:Int)],x+1,by go_num,zO,U6,zH (by rw[z5,O8.out];rfl),qV,zH (by rw[z20 (z4.1 HSK).1];exact HSK)⟩
      simp[intOf];omega
   obtain rfl:K=x:=zO;have sZ:=zT2 (K<K)
   have avL:MR=some (lS,row):=by
    have h1:=aoo.out;rw[List.drop_of_length_le (by rw[List.length_range];exact zR _)] at h1;exact h1.symm
   have hML:oU jD K (1000 - k) (k+1) lS (rows++[row])=MK:=(by have h1:=avE.out;rw[avL] at h1;exact h1);obtain⟨qi,auJ,S20,aCf,Gu⟩:=af wr (Zc #[(rb,0,K,K)] 58);have aev:=Jz.below Gu;have aC4:w6.heap.size<=qi:=(by have:=Gu.size;omega);obtain⟨v21,MS,bG,Tn,fO,jA⟩:=VN qi w6 ht _ aev.S.I.sO wr 1 ⟨rb,K,K⟩ (aO S20) (by rw[aiC.out];have:=Tj.I.rT.len;have:=aiC.out;have:=BR.out;omega) aC4 49;obtain⟨fA,fc,avN⟩:=Tn.form;rw[z5,TQ,aiC.out] at avN;subst avN;have hms:=Jz.done O8 Gu Tn fO jA;obtain⟨qB,aC5,aC6⟩:=zJ3 bG hms hML;clear bG hms hML avL Tn fO jA aev S20 Gu
   go_wp2_with (at_builtin;refine wO rfl (.tmp 107) (.tmp 109) 49 rfl (v1:=(A12,n12,o5)) (v2:=.slice (some ⟨wr,0,none⟩) 1 1) rfl rfl qB ?_)
   go_roundw
   case rel=>exact⟨k+1,Af,ht++[⟨some ⟨rb,0,none⟩,K,K⟩],lS,rows++[row],by go_num,zO,aC5,zH (by rw[z5,BR.out];rfl),zH (by rw[Y5.out];omega),zH (by rw[show 1001 - (k+1)=1000 - k by omega];exact aC6)⟩
   simp[intOf];omega
  obtain rfl:k=n10:=zO;have jc:=zT2 (k<k);have AU:ht.length=k:=Tj.I.rT.len.trans BR;obtain rfl:k=n12:=AU.symm.trans aiC;have hMK:MK=some (sets,rows):=Pv.symm.trans (afl jD K (1001 - k) k (JT (by rw[Td.out];exact zR _)) rows);obtain⟨-,avO,hrs⟩:=aiu (P:=λ_=>True) (λ_ _=>trivial) (xy.trans hMK);obtain⟨mark,aiH⟩:∃f:List Nat->Bool,(λs=>EX s lv)=f:=⟨_,rfl⟩;have hRR:(TM a mark (qA m) sets rows,(0:Int))=RR:=(by have h1:=aon.out;rw[hMK] at h1;rw[<-aiH];exact h1);have aqJ:OO jD K sets rows:=avO;have kV:∀s,mark s=EX s lv:=λs=>(by rw[<-aiH]);obtain⟨uk,hNU⟩:=zF (wR mark sets 0 0);have avQ:uk.length=k:=(by rw[<-hNU,aaT];exact Td);have hk0:k<=1000:=avD;have YI:=zH (And.intro jR (And.intro hnl hKb));clear jR hnl;obtain⟨ahY,aC7,aym,HNU,aiI,HRT⟩:=zJ6 aqJ hRR kV hNU avQ AU;clear hMK avO hrs aiH hRR aqJ kV hNU avQ AU Pv xy aon HKL
  go_wp2_with (with_reducible refine Ti rfl (.tmp 112) (.tmp 112) rfl w6 k rfl rfl zO zO ?_
               intro Bf avR aor aIT;have aIU:w6.heap.size<=Bf:=zO;have aiJ:=Tj.old.trans (aor.mono hso);have abD:=V5.below aiJ;obtain⟨ca0,ca1⟩:=dw abD.1;have aIV:ba<Bf:=aC abD.1;obtain⟨aC8,aC9,ayn,aHI⟩:=zJ4 avR aor abD aiJ
               clear avR aor abD aiJ)
  obtain⟨nb,gX⟩:=zF wo.heap.size;obtain⟨PS,aIW,avS,aIX,OU⟩:=af Bf.drew (Zc #[(),(),(),()] 51);have OU:Bw Bf PS:=⟨OU.os,OU.tape,OU.output,OU.size,OU.block⟩;have S32:PS.heap[Bf.heap.size]?=Zc #[(),(),(),()] 51:=avS;have aqK:=ayn.below OU;have aDa:PS.cell? ba=(nA,nn,nc)/\PS.cell? (ba,1)=(sA,sn,sc):=dw aqK.1;obtain⟨z0,f0,f1,f2,f3⟩:=zK5 (blk4 S32) (k8 PS Bf 0 _ _ S32) (k8 PS Bf 1 _ _ S32) (k8 PS Bf 2 _ _ S32) (k8 PS Bf 3 _ _ S32);have hHeld:Held (λV=>V.cell? ba=(nA,nn,nc)/\V.cell? (ba,1)=(sA,sn,sc)) Bf.drew:=⟨ca0,ca1⟩;have aiK:=abY S32 (nA,nn,nc) (sA,sn,sc) () ();have aos:=tV OU (zR _) (nA,nn,nc) (sA,sn,sc) () ();obtain⟨w33,avU⟩:=zF (((((PS.setCell Bf (nA,nn,nc)).setCell (Bf,1) (sA,sn,sc)).setCell (Bf,2) ()).setCell (Bf,3) ()));rw[avU] at aiK aos;have hou:=Tj.a2K aC9 aC8 aos (zR _) aiK;obtain⟨avV,aIY⟩:=zJ2 hou aiK;clear hou aiK aos S32 avS OU aqK;refine ah.stH hHeld 10 ?_;refine ah.tk 0 hHeld ?_;refine ah.tk 1 hHeld ?_;refine ah.tk 2 hHeld ?_;refine ah.tk 3 hHeld ?_;refine ah.tk 4 hHeld ?_;refine ah.tk 5 hHeld ?_;refine ah.tk 6 hHeld ?_;refine ah.tk 7 hHeld ?_;refine ah.tk 8 hHeld ?_;refine ah.acF 9 (λ_=>aDa) ?_;refine ah.oe 10 ?_;refine ah.dn ?_;go_wp2_with fail
  try rw[avU]
  obtain⟨ob,hob⟩:=zF Bf.heap.size;rw[gX,hob] at avV;rw[hob]
  try rw[gX]
  obtain⟨PF,hPF⟩:=zF (A7 mark (qA m) sets 0);have HPF:=zH hPF;have aHJ:=aol;clear hPF
  go_loopw [125] (λaot W=>∃(i:Nat) (nums:List Int) (fl:List Bool) (fA:Option Addr) (nf fc:Nat),aot= i/\i<=k/\Hid (zC w6 W ob nb k hs ht (A10,k,c10) (A12,k,o5) (nA,nn,nc) (sA,sn,sc) (fA,nf,fc) () sets rows (nums++List.replicate (k - i) 0) fl [])/\Hid (nums.length=i)/\Hid (fl.length=nf)/\nf<=i/\Hid (uk=nums++wR mark (sets.drop i) i (nf:Int))/\Hid (PF=fl++A7 mark (qA m) (sets.drop i) i)) (λaot _=>k - (intOf aot).toNat)
  case atStart=>exact⟨0,[],[],none,0,0,rfl,zO,avV,zH rfl,zH rfl,zR _,zH (by rw[List.drop_zero];exact HNU.symm),zH (by rw[List.drop_zero];exact HPF.symm)⟩
  obtain⟨i,nums,fl,fA,nf,fc,rfl,hi,HOU,Du,wu,hnf,HNP,HFP⟩:=hrel;have aDb:=zH HOU.old;have hsr:w6.heap.size<=wr:=aDb.size;by_cases aN:i<k
  ·have jc:=zT1 (i<k);obtain⟨s,Af⟩:∃s,sets[i]?=some s:=⟨_,z6 (by have:=Td.out;omega)⟩;obtain⟨ns,Jh⟩:=zF s.length;obtain⟨b1,xU,hA,hc,hhx,p0,dO,-,aiE⟩:=HOU.I.aCN Af aN ah6 Jh;obtain⟨bZ,avW⟩:=Tj.O s (SK Af);obtain⟨f1,⟨u1,f2⟩,f3,f4⟩:=HOU.aes (by rw[z5,List.length_replicate,Du.out];omega) aN (-1);obtain⟨wa,BK⟩:=zF (wr.setCell (nb,i) (-1:Int));rw[BK] at f4;have hN:=aiv (mark:=mark) Af (nf:Int);have hF:=afu (mark:=mark) (fin:=qA m) Af;have aIZ:ns<=4297:=(by rw[<-Jh];exact avW);have aqM:=f4.I.aod Af hhx;have avX:jY wa gl lv:=aol.keep (f4.old.block gl aol.lt);obtain⟨KN,HS,HHX,sV,U6⟩:=zK5 (H8 gl lv s hA ns hc wa _ aqM zO avX) (zH Af) (zH hhx) (zH bZ) (zH f4);obtain⟨KO,HNs⟩:=zJ2 KN Jh;clear Af hhx bZ f4 KN aqM avX avW Jh;by_cases UI:i=0
   ·have Ef:=zT1 ((i:Int)=0);rw[j6 (.inl UI)] at hN hF;obtain⟨FZ,HFS⟩:=zJ2 hN hF;obtain⟨g1,⟨u2,g2⟩,g3,g4⟩:=U6.aes (by rw[List.length_set,z5,List.length_replicate,Du.out];omega) aN (nf:Int);have c2:=(blk4 U6.obk).2.2.1;have zu:=zH g4;clear g4 hN hF;subst UI;replace dO:∀V,(Instr.indexAt 49 (A10,k,c10) (0:Int)).run prog V= .ok (b1,xU) V:=dO;replace p0:wr.cell? (b1,xU)=(hA,ns,hc):=p0;replace f3:∀V,(Instr.indexAt 58 (nb,0,k,k) (0:Int)).run prog V= .ok (nb,0) V:=f3;clear g3;go_wp2_with fail;obtain⟨wq,hwq⟩:=zF (wa.setCell nb nf)
    try rw[hwq]
    rw[hwq] at zu;rw[aqG Du aN] at zu;have Hm:=zu;have Yk:=Hm.I.aod HS HHX;have Pj:=aiB.below Hm.old.drew;have jR:=Ip m w6 bm s hA ns hc wq.drew _ Pj (show w6.heap.size<=wq.heap.size from Hm.old.size) Yk zO (λy hy=>((sV y hy).ok jr).2);have aey:=zH jR;have aou:Hid (fl.length<1000000000):=zH (by have:=wu.out;omega);have HNF:=wu;have hHeld:Held (λV=>V.cell? (ob,2)=(fA,nf,fc)) wq.drew:=(blk4 Hm.obk).2.2.1;clear Yk jR Pj;refine ah.stH hHeld 8 ?_;refine ah.tk 0 hHeld ?_;refine ah.tk 1 hHeld ?_;refine ah.tk 2 hHeld ?_;refine ah.tk 3 hHeld ?_;refine ah.on 4 λK hK=>?_;go_simp;refine aey.mono ?_;rintro e w38 ⟨rfl,wW⟩;have wW:Bw wq w38:=⟨wW.os,wW.tape,wW.output,wW.size,wW.block⟩;obtain⟨Tq,aDc,S39,aDd,aeA⟩:=af w38 (Zc #[(qA m s)] 4);have qF:=Hm.below (wW.seq aeA);have aov:w6.heap.size<=Tq:=qF.old.size;obtain⟨v40,w40,bG,We,fO,jA⟩:=aep Tq w6 fl _ qF.fin w38 1 (qA m s) (aO S39) (by have:=aou.out;omega) aov 48;obtain⟨gA,gc,aeB⟩:=We.form;rw[z5,TQ,HNF.out] at aeB;subst aeB;have hod:=qF.tZ We fO;have c38:=(blk4 (ae Hm.obk wW)).2.2.1;have c39:=(blk4 qF.obk).2.2.1
    have c40:w40.cell? (ob,2)=(fA,nf,fc):=(ZS (w:=Tq) (fO.block ob (aC qF.obk) (λe=>by
     obtain⟨cs,hc⟩:=qF.fin.bC e.symm
     exact iP qF.obk hc zD rfl))).trans c39
    have f40:w40.frozen? (ob,2)=false:=(World.frozen?_of_block (w:=Tq) (fO.block ob (aC qF.obk) (λe=>by
     obtain⟨cs,hc⟩:=qF.fin.bC e.symm
     exact iP qF.obk hc zD rfl))).trans (k8 Tq ob 2 _ _ qF.obk)
    obtain⟨qB,HOD⟩:=zJ2 bG hod;clear bG hod We fO jA qF S39 wW aeA;refine di hK (λ_=>c38) ?_;clear hK K;refine ah.acF 5 (λ_=>c39) ?_;refine ah.on 6 λK hK=>?_;refine wM rfl (.tmp 147) (.tmp 151) 48 rfl rfl rfl qB ?_;refine di hK (λ_=>c40) ?_;clear hK K;refine ah.tk 7 c40 ?_;refine ah.oe 8 ?_;refine ah.dn ?_;go_wp2_with fail;go_roundw
    case rel=>exact⟨0+1,nums++[(nf:Int)],fl++[qA m s],gA,nf+1,gc,by go_num,zO,HOD,zH (by rw[z5,Du.out];rfl),zH (by rw[z5,wu.out];rfl),zO,zH (by rw[HNP.out,FZ.out];simp),zH (by rw[HFP.out,HFS.out,d7];rfl)⟩
    (simp[intOf]<;>omega)
   have Ef:=zT2 ((i:Int)=0);have av2:¬(i:Int)=0:=zO;have aHK:((i:Int)==0)=false:=zS1;obtain⟨bk,jB⟩:=zF (mark s);have sJ:EX s lv=bk:=(by rw[<-aym s];exact jB);rw[sJ] at KO;cases bk
   ·rw[j5 (by rw[jB];simp;exact UI)] at hN hF;obtain⟨FZ,HFS⟩:=zJ2 hN hF;clear hN hF UI jB sJ
    go_wp2_with (go_at_call 74;refine KO.mono ?_
                 rintro e wc ⟨rfl,CZ⟩;have Hm:=zH (U6.below CZ);rw[avu Du aN] at Hm
                 clear CZ)
    go_roundw
    case rel=>exact⟨i+1,nums++[(-1:Int)],fl,fA,nf,fc,by go_num,zO,Hm,zH (by rw[z5,Du.out];rfl),wu,zO,zH (by rw[HNP.out,FZ.out];simp),zH (by rw[HFP.out,HFS.out])⟩
    simp[intOf];omega
   rw[j6 (.inr jB)] at hN hF;obtain⟨FZ,HFS⟩:=zJ2 hN hF;clear hN hF UI jB sJ
   go_wp2_with (go_at_call 74;refine KO.mono ?_
                rintro e wc ⟨rfl,CZ⟩;have hoc:=U6.below CZ;obtain⟨g1,⟨u2,g2⟩,g3,g4⟩:=hoc.aes (by rw[List.length_set,z5,List.length_replicate,Du.out];omega) aN (nf:Int);have c2:=(blk4 hoc.obk).2.2.1;have zu:=zH g4
                clear g4 hoc CZ)
   obtain⟨wq,hwq⟩:=zF (wc.setCell (nb,i) nf)
   try rw[hwq]
   rw[hwq] at zu;rw[aqG Du aN] at zu;have Hm:=zu;have Yk:=Hm.I.aod HS HHX;have Pj:=aiB.below Hm.old.drew;have jR:=Ip m w6 bm s hA ns hc wq.drew _ Pj (show w6.heap.size<=wq.heap.size from Hm.old.size) Yk zO (λy hy=>((sV y hy).ok jr).2);have aey:=zH jR;have aou:Hid (fl.length<1000000000):=zH (by have:=wu.out;omega);have HNF:=wu;have hHeld:Held (λV=>V.cell? (ob,2)=(fA,nf,fc)) wq.drew:=(blk4 Hm.obk).2.2.1;clear Yk jR Pj;refine ah.stH hHeld 8 ?_;refine ah.tk 0 hHeld ?_;refine ah.tk 1 hHeld ?_;refine ah.tk 2 hHeld ?_;refine ah.tk 3 hHeld ?_;refine ah.on 4 λK hK=>?_;go_simp;refine aey.mono ?_;rintro e w38 ⟨rfl,wW⟩;have wW:Bw wq w38:=⟨wW.os,wW.tape,wW.output,wW.size,wW.block⟩;obtain⟨Tq,aDc,S39,aDd,aeA⟩:=af w38 (Zc #[(qA m s)] 4);have qF:=Hm.below (wW.seq aeA);have aov:w6.heap.size<=Tq:=qF.old.size;obtain⟨v40,w40,bG,We,fO,jA⟩:=aep Tq w6 fl _ qF.fin w38 1 (qA m s) (aO S39) (by have:=aou.out;omega) aov 48;obtain⟨gA,gc,aeB⟩:=We.form;rw[z5,TQ,HNF.out] at aeB;subst aeB;have hod:=qF.tZ We fO;have c38:=(blk4 (ae Hm.obk wW)).2.2.1;have c39:=(blk4 qF.obk).2.2.1
   have c40:w40.cell? (ob,2)=(fA,nf,fc):=(ZS (w:=Tq) (fO.block ob (aC qF.obk) (λe=>by
        obtain⟨cs,hc⟩:=qF.fin.bC e.symm
        exact iP qF.obk hc zD rfl))).trans c39
   have f40:w40.frozen? (ob,2)=false:=(World.frozen?_of_block (w:=Tq) (fO.block ob (aC qF.obk) (λe=>by
        obtain⟨cs,hc⟩:=qF.fin.bC e.symm
        exact iP qF.obk hc zD rfl))).trans (k8 Tq ob 2 _ _ qF.obk)
   obtain⟨qB,HOD⟩:=zJ2 bG hod;clear bG hod We fO jA qF S39 wW aeA;refine di hK (λ_=>c38) ?_;clear hK K;refine ah.acF 5 (λ_=>c39) ?_;refine ah.on 6 λK hK=>?_;refine wM rfl (.tmp 147) (.tmp 151) 48 rfl rfl rfl qB ?_;refine di hK (λ_=>c40) ?_;clear hK K;refine ah.tk 7 c40 ?_;refine ah.oe 8 ?_;refine ah.dn ?_;go_wp2_with fail;go_roundw
   case rel=>exact⟨i+1,nums++[(nf:Int)],fl++[qA m s],gA,nf+1,gc,by go_num,zO,HOD,zH (by rw[z5,Du.out];rfl),zH (by rw[z5,wu.out];rfl),zO,zH (by rw[HNP.out,FZ.out];simp),zH (by rw[HFP.out,HFS.out,d7];rfl)⟩
   (simp[intOf]<;>omega)
  obtain rfl:k=i:=zO;have jc:=zT2 (k<k);have Dc:uk=nums:=(by have h1:=HNP.out;rw[List.drop_of_length_le (by rw[Td.out];exact zR _),wR,m8] at h1;exact h1);have hfp:PF=fl:=(by have h1:=HFP.out;rw[List.drop_of_length_le (by rw[Td.out];exact zR _),A7,m8] at h1;exact h1);rw[Nat.sub_self,List.replicate_zero,m8,<-Dc] at HOU;have aDe:=zH hfp;clear Dc hfp;go_wp2_with fail
  go_loopw [157] (λaow W=>∃(i:Nat) (E5 OV:List (List Int)) (ho:List Hdr) (oA:Option Addr) (no oc:Nat),aow= i/\i<=k/\Hid (zC w6 W ob nb k hs ht (A10,k,c10) (A12,k,o5) (nA,nn,nc) (sA,sn,sc) (fA,nf,fc) (oA,no,oc) sets E5 uk fl ho)/\Hid (∀j,i<=j->E5[j]?=rows[j]?)/\Hid (ho.length=no)/\Hid (OV.length=no)/\no<=i/\Hid (∀(a:Nat) (x:Hdr) (l:List Int),ho[a]?=x->OV[a]?=l->∃j,j<i/\ht[j]?=x/\E5[j]?=l)/\Hid (uY uk rows uk=OV++uY uk (rows.drop i) (uk.drop i))) (λaow _=>k - (intOf aow).toNat)
  case atStart=>exact⟨0,rows,[],[],none,0,0,rfl,zO,HOU,zH (λ_ _=>rfl),zH rfl,zH rfl,zR _,zH (λa x l h=>by simp at h),zH zP⟩
  rename World=>wp
  obtain⟨i,E5,OV,ho,oA,no,oc,rfl,hi,Jt,HRN,HHO,HOR,hno,HIX,HPS⟩:=hrel;by_cases aN:i<k
  ·have jc:=zT1 (i<k);obtain⟨r,hr⟩:∃r,rows[i]?=some r:=⟨_,z6 (by have:=BR.out;omega)⟩;have hrN:E5[i]?=some r:=(HRN i (zR _)).trans hr;obtain⟨b1,xU,hA,hc,hhx,p0,dO,aiE⟩:=Jt.I.aCM hrN aN HRT;have hrK:r.length=K:=(ahY.row i r hr).1;rw[hrK] at hhx p0;obtain⟨nv,FV⟩:∃v,uk[i]?=some v:=⟨_,z6 (by have:=aiI.out;omega)⟩;obtain⟨q0,qix⟩:=Jt.alK FV aiI;obtain⟨hP,HR,aox,HHX,HRK,HNV⟩:=zK6 (afv (nums:=uk) hr FV) (zH hr) (zH hrN) (zH hhx) (zH hrK) (zH FV);clear hr hrN hhx hrK FV;by_cases av8:nv<0
   ·have Ef:=zT1 (nv<0);rw[j6 av8] at hP;have HP:=zH hP;clear hP;go_wp2_with fail;go_roundw
    case rel=>exact⟨i+1,E5,OV,ho,oA,no,oc,by go_num,zO,Jt,zH (λj hj=>HRN j zO),HHO,HOR,zO,zH (λa x l h1 h2=>by obtain⟨j,a1,a2,a3⟩:=HIX a x l h1 h2;exact⟨j,zO,a2,a3⟩),zH (by rw[HPS.out,HP.out])⟩
    simp[intOf];omega
   have Ef:=zT2 (nv<0);rw[j5 av8] at hP;have HP:=zH hP;clear hP;go_wp2_with fail
   go_loopw [169] (λaoy W=>∃(x:Nat),aoy= x/\x<=K/\Hid (zC w6 W ob nb k hs ht (A10,k,c10) (A12,k,o5) (nA,nn,nc) (sA,sn,sc) (fA,nf,fc) (oA,no,oc) sets (E5.set i (BF (LJ uk) r x)) uk fl ho)) (λaoy _=>K - (intOf aoy).toNat)
   case atStart=>exact⟨0,rfl,zO,zH (by rw[alI,aoe aox];exact Jt)⟩
   obtain⟨x,rfl,hx,HOM⟩:=hrel;by_cases FD:x<K
   ·have PL:=zT1 (x<K);obtain⟨t,E8⟩:∃t,r[x]?=some t:=⟨_,z6 (by rw[HRK.out];exact FD)⟩;have jU:i<E5.length:=(z4.1 aox).1;have hml:(BF (LJ uk) r x).length=K:=(aog _ _ (by rw[HRK.out];omega)).trans HRK;obtain⟨gr,d0,d1,d2,d3⟩:=HOM.avv (v':=LJ uk t) (List.getElem?_set_self jU) (by rw[hml];exact HHX) (VY E8);rw[hml] at d2;rw[List.set_set,aeq E8] at d3;obtain⟨tl,tg⟩:=ahY.lt HR E8;by_cases ht0:0<=t
    ·have hd6:=zT1 (0<=t);obtain⟨j,rfl⟩:∃j:Nat,t=(j:Int):=⟨t.toNat,zO⟩;obtain⟨y,hy⟩:∃y,uk[j]?=some y:=⟨_,z6 (by have:=aiI.out;have:=Td.out;omega)⟩;have hmt:LJ uk (j:Int)=y:=(by unfold LJ;rw[j6 ht0,Int.toNat_natCast,hy];rfl);obtain⟨e0,eix⟩:=HOM.alK hy aiI;rw[hmt] at d3;have HD3:=zH d3;clear d3 hy hmt E8 tl tg hml;go_wp2_with fail;go_roundw
     case rel=>exact⟨x+1,by go_num,zO,HD3⟩
     simp[intOf];omega
    have hd6:=zT2 (0<=t);have hmt:LJ uk t=t:=(by unfold LJ;rw[j5 ht0]);have jE:=zH (alJ E8 hmt);clear d3 hmt E8 tl tg hml;go_wp2_with fail;go_roundw
    case rel=>exact⟨x+1,by go_num,zO,zH (by rw[<-jE.out];exact HOM)⟩
    simp[intOf];omega
   obtain rfl:K=x:=zO;have PL:=zT2 (K<K);rw[aof _ _ (by rw[HRK.out];exact zR _)] at HOM;have jU:i<E5.length:=(z4.1 aox).1;have c3:=(blk4 HOM.obk).2.2.2;obtain⟨w50,aI0,S50,aI1,av9⟩:=af wr (Zc #[(hA,K,hc)] 58);have U7:=HOM.below av9;have aDf:w6.heap.size<=w50:=U7.old.size;obtain⟨v51,w51,bG,aoz,fO,jA⟩:=VN w50 w6 ho _ U7.ou wr 1 ⟨hA,K,hc⟩ (aO S50) (by rw[HHO.out];omega) aDf 49;obtain⟨gA,gc,awc⟩:=aoz.form;rw[z5,TQ,HHO.out] at awc;subst awc;have awd:=U7.aCO aoz fO jA
   have aiL:(Value.slice oA no oc).ownBlock≠some ob:=λe=>by
    obtain⟨cs,yu⟩:=U7.ou.bC e;exact iP U7.obk yu zD rfl
   have aI2:w51.frozen? (ob,3)=false:=(World.frozen?_of_block (w:=w50) (fO.block ob (aC U7.obk) (λe=>aiL e.symm))).trans (k8 w50 ob 3 _ _ U7.obk);have aI3:w51.cell? (ob,3)=(oA,no,oc):=(ZS (w:=w50) (fO.block ob (aC U7.obk) (λe=>aiL e.symm))).trans (blk4 U7.obk).2.2.2;obtain⟨qB,aDg⟩:=zJ2 bG awd;clear bG awd aoz fO jA U7 S50 av9 aiL
   go_wp2_with (at_builtin;refine wO rfl (.tmp 185) (.tmp 187) 49 rfl (v1:=(oA,no,oc)) (v2:=.slice (some ⟨wr,0,none⟩) 1 1) rfl rfl qB ?_)
   go_roundw
   case rel=>
    refine⟨i+1,E5.set i (r.map (LJ uk)),OV++[r.map (LJ uk)],ho++[⟨hA,K,hc⟩],gA,no+1,gc,by go_num,zO,aDg,zH (λj hj=>by rw[List.getElem?_set_ne zO];exact HRN j zO),zH (by rw[z5,HHO.out];rfl),zH (by rw[z5,HOR.out];rfl),zO,zH (λa x l h1 h2=>?_),zH (by rw[HPS.out,HP.out,d7];rfl)⟩;rw[List.getElem?_append] at h1 h2;rw[HHO.out] at h1;rw[HOR.out] at h2;by_cases ha:a<no
    ·rw[j6 ha] at h1 h2;obtain⟨j,a1,a2,a3⟩:=HIX a x l h1 h2;exact⟨j,zO,a2,by rw[List.getElem?_set_ne zO];exact a3⟩
    rw[j5 ha] at h1 h2
    have e1:a - no=0:=by
           have:=(z4.1 h1).1;simp at this;omega
    rw[e1] at h1 h2;simp only[List.getElem?_cons_zero,l5] at h1 h2;subst h1;subst h2;exact⟨i,zO,HHX,List.getElem?_set_self jU⟩
   simp[intOf];omega
  obtain rfl:k=i:=zO;have jc:=zT2 (k<k);have ZC:uY uk rows uk=OV:=(by have h1:=HPS.out;rw[aiw (by rw[BR.out];exact zR _),m8] at h1;exact h1);have o0:=blk4 Jt.obk;have hbp:=Jt.old;have mM:w6.heap.size<=wp:=hbp.size;have V0:=ae adf hbp;obtain⟨z0,f0,f1,f2,f3,aDh,BV⟩:=zK7 (blk4 V0) (k8 wp (w.heap.size+1) 0 _ _ V0) (k8 wp (w.heap.size+1) 1 _ _ V0) (k8 wp (w.heap.size+1) 2 _ _ V0) (k8 wp (w.heap.size+1) 3 _ _ V0) (zH ZC) (zH hbp);clear ZC hbp;go_upto_region 51 with fail;have VL:=abY V0 (nA,nn,nc) (sA,sn,sc) (fA,nf,fc) (oA,no,oc);obtain⟨y0,y1,y2,y3⟩:=blk4 VL
  iterate 14 go_step
  refine Qg (P:=prog) (fn:=Tryz.f25) (v:=.tuple #[.agg #[(nA,nn,nc),(sA,sn,sc),(fA,nf,fc),(oA,no,oc)],(0:Int)]) ?hres ?hdef ?_
  case hdef=>rfl
  case hres=>simp[results,results25,go_sem,y0,y1,y2,y3]
  have hwp:w.heap.size<=w6:=GG.size;have aDi:Bw w wp:=GG.trans (BV.mono hwp);have aDj:w.heap.size+1<w6:=aC adf;rw[<-aC7.out];refine⟨_,_,_,_,rfl,?_,tV aDi (Nat.le_succ _) _ _ _ _⟩
  have Y9:∀q,q≠w.heap.size+1->((((wp.setCell (w.heap.size+1,0) (nA,nn,nc)).setCell (w.heap.size+1,1) (sA,sn,sc)).setCell (w.heap.size+1,2) (fA,nf,fc)).setCell (w.heap.size+1,3) (oA,no,oc)).heap[q]?=wp.heap[q]?:=λq hq=>by
       rw[b7 _ _ _ _ hq,b7 _ _ _ _ hq,b7 _ _ _ _ hq,b7 _ _ _ _ hq]
  obtain⟨wz,UZ⟩:=zF (((((wp.setCell (w.heap.size+1,0) (nA,nn,nc)).setCell (w.heap.size+1,1) (sA,sn,sc)).setCell (w.heap.size+1,2) (fA,nf,fc)).setCell (w.heap.size+1,3) (oA,no,oc)));have awe:wp.heap.size<=wz:=(by rw[<-UZ];simp[World.setCell]);rw[UZ] at Y9;rw[UZ];have tJ:=V5.below BV;have dD:∀q,w6.heap.size<=q->q≠w.heap.size+1:=λq h=>Nat.ne_of_gt (d4 aDj h);refine⟨nA,nn,nc,sA,sn,sc,ho,rfl,rfl,?_,?_,YI.2.1.1,YI.2.1.2,?_,?_,?_⟩
  ·exact tJ.2.1.avt V0 (λx _=>⟨_,rfl,λv hv e=>by subst e;simp at hv⟩) Y9 awe
  ·exact tJ.2.2.1.avt V0 (λx _=>⟨_,rfl,λv hv e=>by subst e;simp at hv⟩) Y9 awe
  ·have Su:(TM a mark (qA m) sets rows).final=fl:=HPF.trans aDe;rw[Su];exact(Jt.fin.bu λq hq=>Y9 q (dD q (Jt.fin.block_lt hq).1)).low hwp
  ·exact(Jt.ou.bu λq hq=>Y9 q (dD q (Jt.ou.block_lt hq).1)).low hwp
  have bZ:(TM a mark (qA m) sets rows).steps=OV:=by
   show uY (wR mark sets 0 0) rows (wR mark sets 0 0)=OV;rw[HNU.out];exact aDh
  rw[bZ];refine⟨HHO.trans HOR.symm,λb l h hl hh=>?_⟩;obtain⟨j,-,a2,a3⟩:=HIX b h l hh hl;have Tc:=Jt.I.rT.row j l h a3 a2;exact(Tc.bu λq hq=>Y9 q (dD q (Tc.block_lt hq).1)).low hwp
 rw[j6 h0] at hR;have jV:(E !=0)=true:=(by simpa using h0);have ER:decide (E≠0)=true:=(by simpa using h0);subst hR;go_enter func25,ntmps25
 go_wp2_with (go_at_call 13;refine uC.mono ?_;rintro e w2 ⟨rfl,ag⟩
              have V0:=ae Jc ag;obtain⟨z0,f0,f1,f2⟩:=zK4 (blk4 V0) (k8 w2 (w.heap.size+1) 0 _ _ V0) (k8 w2 (w.heap.size+1) 1 _ _ V0) (k8 w2 (w.heap.size+1) 2 _ _ V0)
              have f3:=k8 w2 (w.heap.size+1) 3 _ _ V0)
 have VL:=abY V0 () () () ();obtain⟨y0,y1,y2,y3⟩:=blk4 VL;refine Qg (v:=.tuple #[.agg #[(),(),(),()],E]) (by simp[results,results25,go_sem,y0,y1,y2,y3]) rfl ?_;exact⟨_,_,_,_,rfl,Yi.nil _ _,tV (nK.seq ag) (Nat.le_succ _) _ _ _ _⟩
