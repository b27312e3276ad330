import Derived.Test.YtgmnnegfndpakaaGreatDoorLivA
set_option maxHeartbeats 20000000
set_option maxRecDepth 100000
namespace Go.Proofs.YtgmnnegfndpakaaGreatDoor
open Go.RowKit Go.Proofs.Tryz
theorem Ir{m:eQ}(fQ:mQ m){set:List Nat}(h:∀s∈set,jv m s)(n:Nm):∀s∈lZ m set n,jv m s:=λs hs=>by
 unfold lZ at hs;rw[wI] at hs;obtain⟨t,ht,h1⟩:=List.mem_flatMap.1 hs;unfold IJ at h1;obtain⟨x,hx,rfl⟩:=List.mem_map.1 h1;exact(h t ht).step fQ (List.mem_filter.1 hx).1
theorem Jp{m:eQ}(fQ:mQ m){set:List Nat}(h:∀s∈set,jv m s)(n:Nm):(lZ m set n).length<=4297:=by
 have h1:(lZ m set n).Nodup:=(qW _).imp λh=>Nat.ne_of_lt h;exact zT (Ba _ _ h1 λs hs=>(Ir fQ h n s hs).lt) (EO fQ)
theorem ald{m:eQ}{live:List Nat}{ws:List Nm}{i:Nat}{x:Nm}(h:ws[i]?=x)(set:List Nat):
 QK m live (ws.drop i) i set=if EX (lZ m set x) live then QK m live (ws.drop (i+1)) (i+1) (lZ m set x) else (false,i):=by
 obtain⟨hi,rfl⟩:=z4.1 h;rw[nZ hi,QK]
theorem aY.Sv{α:Type}{w:World}{F F':Nat->Prop}{sz:Nat}{cells:α->List Value}{l:List α}{A:Option Addr}{n:Nat}(h:aY w F sz cells l A n)(hF:∀k,F k->F' k):aY w F' sz cells l A n:=by
 refine⟨h.1,λhp=>?_⟩;obtain⟨b,off,h1,h2,h3⟩:=h.2 hp;exact⟨b,off,h1,hF _ h2,h3⟩
theorem Sz(p:aJ)(elems:List (List Nm))(ws:List Nm)(cs:List Value)(w:World)(eA:Option Addr)(en ec:Nat)(A:Option Addr)(n c:Nat)(hr:au w (· <w) (aZ p) cs)(he:bM w (· <w) 1 (elems.map nU) eA en)(jR:en<6000000000000)(hw:aY w (· <w) 2 dK ws A n)(hn:n<6000000000000)(hT:Tab w):
 Rt 23 #[.agg cs.toArray,(eA,en,ec),(A,n,c)] w (.tuple #[(Fp p elems ws).1,(Fp p elems ws).2.1,(Fp p elems ws).2.2]):=by
 obtain⟨k,mn,mx,el,ck,ns,nl,sp,A1,n1,c1,A2,n2,c2,pr,A0,n0,c0,rfl,hk,-⟩:=aW hr;obtain⟨w1,bI,S1,nC,ai⟩:=zP1 w k mn mx el ck ns nl sp A1 n1 c1 A2 n2 c2 pr A0 n0 c0;have e1:w1=w.heap.size+1:=(by rw[<-bI];simp);have q0:=aj S1;have SE:=BQ elems p _ eA en ec w1 _ _ (hr.below ai) (he.below ai) jR;obtain⟨E,hE⟩:=zF (kN elems p);obtain⟨R,hR⟩:=zF (Fp p elems ws);rw[hE] at SE;rw[hR];unfold Fp at hR;rw[hE] at hR;have hlen:ws.length=n:=hw.1.symm;obtain⟨uC,HR,HE,HW,HT,aQ,Jj,pR⟩:=zJ8 SE hr he hw hT S1 hE hlen;have nK:=zH ai;clear SE hr he hw hT S1 hE hlen;by_cases h0:E=0
 ·subst h0;rw[j5 zP] at hR;have jV:((0:Int) !=0)=false:=zD;have ER:decide ((0:Int)≠0)=false:=zD;rw[pR.out] at hR;by_cases adU:300<n
  ·rw[j6 adU] at hR;have gJ:=zT1 ((300:Int)<(n:Int));subst hR;go_enter func23,ntmps23
   go_wp2_with (go_at_call 13;refine uC.mono ?_;rintro e w2 ⟨rfl,ag⟩)
   refine Qg (v:=.tuple #[false,(0:Int),(3:Int)]) (by simp[results,results23,go_sem]) rfl ?_;exact⟨rfl,nK.seq ag⟩
  rw[j5 adU] at hR;have gJ:=zT2 ((300:Int)<(n:Int));obtain⟨bv,jS⟩:=zF (ws.any oZ);rw[jS] at hR;have adV:Hid (∀W,Bw w W->Rt 48 #[(A,n,c)] W (!bv:Bool)):=zH λW hb=>(by rw[<-jS];exact KZ ws A n c W _ (HW.below hb) hn);cases bv
  ·rw[j5 zP] at hR;have fQ:=MH Jj;have uw:=FW Jj;obtain⟨m,hm⟩:=zF (eU elems p);rw[hm] at hR fQ uw;obtain⟨jr,wu,HM⟩:=zJ3 fQ uw hm;obtain⟨lv,vX⟩:=zF (aao m);rw[vX] at hR;obtain⟨Ee,qG⟩:=zJ2 vX hR;clear fQ uw hm jS vX hR;go_enter func23,ntmps23
   go_wp2_with (first
    | (go_at_call 13;refine uC.mono ?_
       rintro e w2 ⟨rfl,ag⟩;have mX:Bw w w2:=nK.seq ag;have adS:=zH mX;have uS:w1.heap.size<=w2:=ag.size;clear q0;have gY:=zH (ae aQ ag)
       clear ag mX)
    | (go_at_call 48;refine (adV _ adS).mono ?_
       rintro e w3 ⟨rfl,az⟩;have Ep:Bw w w3:=adS.seq az;have anO:=zH Ep;have su:w2.heap.size<=w3:=az.size;have q0:=aj (ae gY az);have KL:=FP p elems _ w3 eA en ec (HR.keep λq hq=>⟨zO,Ep.block q hq⟩) (HE.keep λq hq=>⟨zO,Ep.block q hq⟩) jR Jj;rw[HM.out] at KL;have HBU:=zH KL
       clear az Ep KL)
    | (go_at_call 57;refine HBU.mono ?_
       rintro e w4 ⟨bm,rfl,Ea,aX,yP⟩;have wU:Bw w w4:=anO.seq aX;have IX:w3.heap.size<=w4:=aX.size;have DK:=VQ m w4 bm w4 Ea jr (zR _) wu (HT.below wU);obtain⟨HLI,GZ,ah7⟩:=zJ3 DK Ea wU
       clear Ea aX wU DK)
    | (go_at_call 73;refine HLI.mono ?_
       rintro e w5 ⟨g,rfl,Jq,Pg,bg⟩;have IY:w4.heap.size<=w5:=bg.size;obtain⟨w6,hw6,S6,hs6,dQ⟩:=af w5 (Zc #[(0:Int)] 3);rw[Ee.out] at Jq;obtain⟨xy,auR,yX,HG⟩:=zK4 (zH (Jq.keep (dQ.block g Jq.lt))) (zH (bg.seq dQ)) (zH S6) (zH Jq.lt)
       clear Jq bg S6 dQ))
   go_loopw [12,35] (λs12 s35 W=>∃(i:Nat) (set:List Nat) (A':Option Addr) (n' c':Nat),i<=n/\s35= i/\s12= (A',n',c')/\Hid (R=((QK m lv (ws.drop i) i set).1,(QK m lv (ws.drop i) i set).2,0))/\aY W (· <W) 1 aV set A' n'/\(∀s∈set,jv m s)/\n'<=1000000/\Bw w6 W)
    (λ_ s35 _=>n - (intOf s35).toNat)
   case atStart=>
    have ho:=sQ (n:=0) (base:=w5) yX (zR _);obtain⟨A',c',ev,aI,-,-⟩:=ho.row jd zD;simp only[i6] at ev;obtain⟨rfl,-,rfl⟩:=ev;exact⟨0,[0],_,_,_,zO,rfl,rfl,zH qG.symm,aI.Sv (λ_ h=>h.2),λs hs=>by rw[og] at hs;subst hs;exact jv.zero m,zD,j9 _ _⟩
   obtain⟨i,set,A',n',c',hi,rfl,rfl,VR,aI,bZ,CO,wV⟩:=hrel;have anP:w6.heap.size<=wr:=wV.size;have aH:Bw w wr:=ah7.trans ((auR.seq wV).mono zO);have hMr:mO wr w4 bm m:=GZ.below (auR.trans (wV.mono zO));have PQ:jY wr g lv:=xy.keep (wV.block g (by have:=HG.out;omega));by_cases aN:i<n
   ·have jc:=zT1 (i<n);obtain⟨b1,xU,x1,x2,HX,p0,p1,dO⟩:=(HW.below aH).name aN c;obtain⟨w7,JX,S7,hs7,eP⟩:=af wr (Zc #[x1,x2] 23);have d0:=dw S7;obtain⟨jm,wS,oO,jA⟩:=zK4 (Dv m w4 bm set A' n' c' x1 x2 w7 (hMr.below (eP.mono zO)) jr zO ((aI.below eP).Sv (λ_ h=>by omega)) CO (λs hs=>(bZ s hs).ok jr) wu) (ald (m:=m) (live:=lv) HX set) (Ir jr bZ (x1,x2)) (Jp jr bZ (x1,x2));obtain⟨nx,xw⟩:=zF (lZ m set (x1,x2));rw[xw] at jm wS oO jA;obtain⟨bk,jB⟩:=zF (EX nx lv);rw[jB] at wS;obtain⟨pO,XZ,Po,HBL,Z5,PG,adX,nG⟩:=zJ8 jm wS oO jA jB hMr PQ aH;have ah8:=zH (wV.seq eP);obtain⟨oQ,HGL⟩:=zJ2 eP PQ.lt;clear jm wS oO jA jB hMr PQ aH eP wV aI bZ xw S7;cases bk
    ·go_wp2_with (first
      | (go_at_call 63;refine pO.mono ?_
         rintro e w8 ⟨v8,rfl,MJ,eX⟩;obtain⟨A8,c8,ev,uM,-,-⟩:=MJ.row jd zD;subst ev;obtain⟨n8,UW⟩:=zF nx.length;rw[UW] at uM ⊢;have KN:=H8 g lv nx A8 n8 c8 w8 _ uM (by have:=HBL.out;omega) (adX.keep ((oQ.seq eX).block g HGL));rw[Z5.out] at KN;have KO:=zH KN;have Ac:=zH (ah8.seq eX);have YZ:=zH ((nG.seq oQ).seq eX)
         clear KN MJ uM eX)
      | (go_at_call 74;refine KO.mono ?_;rintro e w9 ⟨rfl,uF⟩))
     refine Qg (v:=.tuple #[false,i,(0:Int)]) (by simp[results,results23,go_sem]) rfl ?_;refine⟨?_,YZ.seq uF⟩;rw[VR.out,XZ.out];rfl
    go_wp2_with (first
     | (go_at_call 63;refine pO.mono ?_
        rintro e w8 ⟨v8,rfl,MJ,eX⟩;obtain⟨A8,c8,ev,uM,-,-⟩:=MJ.row jd zD;subst ev;obtain⟨n8,UW⟩:=zF nx.length;rw[UW] at uM ⊢;have KN:=H8 g lv nx A8 n8 c8 w8 _ uM (by have:=HBL.out;omega) (adX.keep ((oQ.seq eX).block g HGL));rw[Z5.out] at KN;obtain⟨KO,Ac,YZ,TU,HN8⟩:=zK5 (zH KN) (zH (ah8.seq eX)) (zH ((nG.seq oQ).seq eX)) (zH uM) (zH UW)
        clear KN MJ uM eX UW)
     | (go_at_call 74;refine KO.mono ?_;rintro e w9 ⟨rfl,uF⟩))
    go_roundw
    case rel=>
     refine⟨i+1,nx,A8,n8,c8,zO,by go_num,rfl,zH ?_,(show aY w9 (· <w9) 1 aV nx A8 n8 from ((TU.Sv (F':=(· <w8)) (λ_ h=>h.2)).below uF).Sv (λ_ h=>by have:=uF.size;omega)),Po,by have:=HBL.out;have:=HN8.out;omega,Ac.seq uF⟩;rw[VR.out,XZ.out];rfl
    simp[intOf];omega
   obtain rfl:i=n:=zO;have jc:=zT2 (i<i);have hdr:ws.drop i=[]:=z14 (by rw[pR.out];exact zR _);rw[hdr] at VR;have auT:=Ip m w4 bm set A' n' c' wr _ hMr zO aI zO (λs hs=>((bZ s hs).ok jr).2);obtain⟨WA,nG⟩:=zJ2 auT aH;clear auT hMr PQ aI bZ wV aH
   go_wp2_with (go_at_call 59;refine WA.mono ?_;rintro e w9 ⟨rfl,uF⟩)
   refine Qg (v:=.tuple #[(qA m set),i,(0:Int)]) (by simp[results,results23,go_sem]) rfl ?_;refine⟨?_,nG.seq uF⟩;rw[VR.out];rfl
  rw[j6 rfl] at hR;subst hR;go_enter func23,ntmps23
  go_wp2_with (first
   | (go_at_call 13;refine uC.mono ?_
      rintro e w2 ⟨rfl,ag⟩
      have adS:=zH (nK.seq ag))
   | (go_at_call 48;refine (adV _ adS).mono ?_;rintro e w3 ⟨rfl,az⟩))
  refine Qg (v:=.tuple #[false,(0:Int),(2:Int)]) (by simp[results,results23,go_sem]) rfl ?_;exact⟨rfl,adS.seq az⟩
 rw[j6 h0] at hR;have jV:(E !=0)=true:=(by simpa using h0);have ER:decide (E≠0)=true:=(by simpa using h0);subst hR;go_enter func23,ntmps23
 go_wp2_with (go_at_call 13;refine uC.mono ?_;rintro e w2 ⟨rfl,ag⟩)
 refine Qg (v:=.tuple #[false,(0:Int),E]) (by simp[results,results23,go_sem]) rfl ?_;exact⟨rfl,nK.seq ag⟩
