import Derived.Test.YtgmnnegfndpakaaGreatDoorH37
import Derived.Test.YtgmnnegfndpakaaGreatDoorH31
import Derived.Test.YtgmnnegfndpakaaGreatDoorH30
set_option maxHeartbeats 20000000
set_option maxRecDepth 100000
namespace Go.Proofs.YtgmnnegfndpakaaGreatDoor
open Go.RowKit Go.Proofs.Tryz
section
attribute [local go_sem] Oper.semAt_some
theorem Zi{F:Fence}{n:Nat}{P:Program}{ops:Array Oper}{Q:Exit->Act->World->Prop}{a:Act}{w:World}{rest:List Oper}{o:Oper}(hF:∀f,F.fn f)(hw:Region.wanted o (yielded ops a.tmps)=false)(h:wpListIn F n P ops Q rest (a.put o.dst undef) w):wpListIn F n P ops Q (o::rest) a w:=by
 simp only[wpListIn,hw];exact⟨λf _=>hF f,h⟩
noncomputable def nxF(m:eQ)(lv:List Nat)(x:SP):Bool:=decide (x.1.dst∈lv)&&Hr m.elems x.1.leaf
theorem ag2{m:eQ}(uw:∀s,(gK m s).length<=300000)(lv:List Nat):∀l:List Nat,(l.flatMap (NF m lv)).length<=l.length*300000:=by
 intro l
 induction l with
 | nil=>simp
 | cons y l ih=>
   rw[l4,z5,z9,Nat.add_mul,Nat.one_mul,Nat.add_comm];refine Nat.add_le_add ih ?_;unfold NF;rw[z8];exact zT (List.length_filter_le _ _) (uw y)
theorem aY.aw8{w:World}{F:Nat->Prop}{l:List Nat}{A:Option Addr}{n q:Nat}(h:aY w F 1 aV l A n)(hq:SlB w q):aY w (λk=>F k/\k≠q) 1 aV l A n:=by
 refine⟨h.1,λhp=>?_⟩;obtain⟨b,off,hA,hb,hc⟩:=h.2 hp;refine⟨b,off,hA,⟨hb,λe=>?_⟩,hc⟩;subst e;obtain⟨B,m,c,e⟩:=hq _ _ (hc 0 _ (z6 hp) 0 _ rfl);cases e
theorem next_any(p:aJ)(elems:List (List Nm))(ws:List Nm)(cs:List Value)(w:World)(eA:Option Addr)(en ec:Nat)(A:Option Addr)(n c:Nat)(hr:au w (· <w) (aZ p) cs)(he:bM w (· <w) 1 (elems.map nU) eA en)(jR:en<6000000000000)(hw:aY w (· <w) 2 dK ws A n)(hn:n<6000000000000)(hT:Tab w):
 Cl 30 #[.agg cs.toArray,(eA,en,ec),(A,n,c)] w λe w'=>∃v,e= .returned (.tuple #[v,(TG p elems ws).2.1,(TG p elems ws).2.2])/\ax w' w 3 1 aV (TG p elems ws).1 v/\Bw w w':=by
 obtain⟨k,mn,mx,el,ck,ns,nl,sp,A1,n1,c1,A2,n2,c2,pr,A0,n0,c0,rfl,hk,-⟩:=aW hr;obtain⟨w1,bI,S1,S0,nC,ai⟩:=zP2 w k mn mx el ck ns nl sp A1 n1 c1 A2 n2 c2 pr A0 n0 c0 (Zc #[()] 58)
 have e1:w1=w.heap.size+1+1:=by rw[<-bI];simp
 have q0:=aj S1;have SE:=BQ elems p _ eA en ec w1 _ _ (hr.below ai) (he.below ai) jR;obtain⟨E,hE⟩:=zF (kN elems p);obtain⟨R,hR⟩:=zF (TG p elems ws);rw[hE] at SE;rw[hR];unfold TG at hR;rw[hE] at hR;have hlen:ws.length=n:=hw.1.symm;obtain⟨uC,HR,HE,HW,HT,aQ,Jc,Jj⟩:=zJ8 SE hr he hw hT S1 S0 hE;obtain⟨pR,nK⟩:=zJ2 hlen ai;clear SE hr he hw hT S1 S0 hE hlen;by_cases h0:E=0
 ·subst h0
  rw[j5 zP] at hR
  have jV:((0:Int) !=0)=false:=by decide
  have ER:decide ((0:Int)≠0)=false:=by decide
  rw[pR.out] at hR;by_cases adU:300<n
  ·rw[j6 adU] at hR
   have gJ:=zT1 ((300:Int)<(n:Int));subst hR;refine (t6 (n:=3)).1 ?_;refine callsIn_of_wp_marks func30 rfl trivial ?_ rfl;simp only[ntmps30,YV,z9,z24,Nat.reduceAdd,Nat.reduceSub,Ze,Zd,List.push_toArray,ZD,d6,m7]
   gi_wp2_with (refine⟨trivial,?_⟩;gi_at_call 13;refine (t6.2 uC).mono ?_;rintro e w2 ⟨rfl,ag⟩;have V0:=ae Jc ag;have z0:=aO V0;have f0:=k8 w2 (w.heap.size+1) 0 _ _ V0)
   refine qc [] _ ⟨List.nodup_nil,λD h=>(by simp at h)⟩ λwL Tv=>?_;have VL:wL.heap[w.heap.size+1]?=Zc #[()] 58:=bF (bD V0) Tv zP;have zL:=aO VL;refine⟨.tuple #[(),false,(3:Int)],by simp[results,results30,go_sem,zL],_,rfl,ax.nil _ _ _ _ _,?_⟩;exact((nK.seq ag).setCell (p:=⟨w.heap.size+1,0,none⟩) (Nat.le_succ _) _).trans (Tv.below (by have h5:=(nK.seq ag).size;simp;omega) (λ_ _ h=>by simp at h))
  ·rw[j5 adU] at hR
   have gJ:=zT2 ((300:Int)<(n:Int));obtain⟨bv,jS⟩:=zF (ws.any oZ);rw[jS] at hR;have adV:Hid (∀W,Bw w W->Rt 48 #[(A,n,c)] W (!bv:Bool)):=zH λW hb=>(by rw[<-jS];exact KZ ws A n c W _ (HW.below hb) hn);cases bv
   ·rw[j5 zP] at hR
    have fQ:=MH Jj;have uw:=FW Jj;obtain⟨m,hm⟩:=zF (eU elems p);rw[hm] at hR fQ uw;obtain⟨jr,wu,HM⟩:=zJ3 fQ uw hm;obtain⟨lv,vX⟩:=zF (aao m);rw[vX] at hR;obtain⟨Ee,qG⟩:=zJ2 vX hR;clear fQ uw hm jS vX hR;refine (t6 (n:=3)).1 ?_;refine callsIn_of_wp_marks func30 rfl trivial ?_ rfl;simp only[ntmps30,YV,z9,z24,Nat.reduceAdd,Nat.reduceSub,Ze,Zd,List.push_toArray,ZD,d6,m7]
    gi_wp2_with (first
     | (refine⟨trivial,?_⟩;gi_at_call 13;refine (t6.2 uC).mono ?_
        rintro e w2 ⟨rfl,ag⟩;have mX:Bw w w2:=nK.seq ag;have adS:=zH mX;have uS:w1.heap.size<=w2:=ag.size;clear q0;have gY:=zH (ae aQ ag);have Lh:=zH ag
        clear ag mX)
     | (refine⟨trivial,?_⟩;gi_at_call 48;refine (t6.2 (adV _ adS)).mono ?_
        rintro e w3 ⟨rfl,az⟩;have Ep:Bw w w3:=adS.seq az;have anO:=zH Ep;have su:w2.heap.size<=w3:=az.size;have q0:=aj (ae gY az);have KL:=FP p elems _ w3 eA en ec (HR.keep λq hq=>⟨zO,Ep.block q hq⟩) (HE.keep λq hq=>⟨zO,Ep.block q hq⟩) jR Jj;rw[HM.out] at KL;have HBU:=zH KL;have aoC:=zH (Lh.seq az)
        clear az Ep KL)
     | (refine⟨trivial,?_⟩;gi_at_call 57;refine (t6.2 HBU).mono ?_
        rintro e w4 ⟨bm,rfl,Ea,aX,yP,hc0⟩;have wU:Bw w w4:=anO.seq aX;have IX:w3.heap.size<=w4:=aX.size;have hq4:w4.heap[w.heap.size+1]?=Zc #[()] 58:=ae Jc (aoC.seq aX);have lT:m.elems=elems:=(by rw[<-HM.out];unfold eU;split<;>rfl);have hMF:Gs w4 (λq=>q<w4/\q≠w+1) bm m:=Ea.yI hq4 hc0 (by rw[lT];exact HE.keep λq hq=>⟨⟨zO,zO⟩,wU.block q hq⟩);obtain⟨wx,hwx,SX,Xq,hbx⟩:=af w4 (Zc #[(bm,0)] 93);have cx:=aO SX;have DK:=VQ m w4 bm wx (Ea.below hbx) jr zO wu (HT.below (wU.seq hbx));obtain⟨HLI,JU,aDN,yD,HMF,HQX,HBX,aI9⟩:=zK8 (zH DK) (zH (Ea.below hbx)) (zH (wU.seq hbx)) (zH SX) (zH hMF) (zH (ae hq4 hbx)) (zH hbx) (zH IX)
        clear Ea aX wU DK SX hbx hc0 lT hMF hq4)
     | (refine⟨trivial,?_⟩;gi_at_call 73;refine (t6.2 HLI).mono ?_
        rintro e w5 ⟨g,rfl,Jq,Pg,bg⟩;have IY:wx.heap.size<=w5:=bg.size;obtain⟨wy,hwy,SY,hsy,nP⟩:=af w5 (Zc #[.map (some g)] 122);obtain⟨w6,hw6,S6,hs6,dQ⟩:=af wy (Zc #[(0:Int)] 3);rw[Ee.out] at Jq;obtain⟨xy,ao5,yX,HG,HSY,aDO,HQ6⟩:=zK7 (zH (Jq.keep ((nP.seq dQ).block g Jq.lt))) (zH (bg.seq (nP.seq dQ))) (zH S6) (zH Jq.lt) (zH (ae SY dQ)) (zH (ae yD (bg.seq (nP.seq dQ)))) (zH (ae HQX (bg.seq (nP.seq dQ))))
        clear Jq bg S6 SY nP dQ cx))
    gi_loopw [12,38] (λs12 s38 W=>∃(i:Nat) (set:List Nat) (A':Option Addr) (n' c':Nat),i<=n/\s38= i/\s12= (A',n',c')/\Hid (set=(ws.take i).foldl (lZ m) [0])/\aY W (· <W) 1 aV set A' n'/\(∀s∈set,jv m s)/\n'<=1000000/\Bw w6 W)
     (λ_ s38 _=>n - (intOf s38).toNat)
    case atStart=>
     have ho:=sQ (n:=0) (base:=wy) yX (zR _);obtain⟨A',c',ev,aI,-,-⟩:=ho.row jd zD;simp only[i6] at ev;obtain⟨rfl,-,rfl⟩:=ev;exact⟨0,[0],_,_,_,zO,rfl,rfl,zH (by rw[List.take_zero];rfl),aI.Sv (λ_ h=>h.2),λs hs=>by rw[og] at hs;subst hs;exact jv.zero m,zD,j9 _ _⟩
    case round=>
     obtain⟨i,set,A',n',c',hi,rfl,rfl,aqW,aI,bZ,CO,wV⟩:=hrel;have anP:w6.heap.size<=wr:=wV.size;have aH:Bw w wr:=aDN.trans ((ao5.seq wV).mono zO);have hMr:mO wr w4 bm m:=JU.below ((ao5.seq wV).mono zO);have PQ:jY wr g lv:=xy.keep (wV.block g (by have:=HG.out;omega));have aiX:=ae aDO wV;have aiY:=ae HSY wV;have hXQ:=ae HQ6 wV;by_cases aN:i<n
     ·have jc:decide (i<n)=true:=by simp;omega
      obtain⟨b1,xU,x1,x2,HX,p0,p1,dO⟩:=(HW.below aH).name aN c;obtain⟨w7,JX,S7,hs7,eP⟩:=af wr (Zc #[x1,x2] 23);have d0:=dw S7;have d2:=aO (ae aiX eP);have jm:=Dv m w4 bm set A' n' c' x1 x2 w7 (hMr.below (eP.mono zO)) jr zO ((aI.below eP).Sv (λ_ h=>by omega)) CO (λs hs=>(bZ s hs).ok jr) wu;have oO:=Ir jr bZ (x1,x2);have jA:=Jp jr bZ (x1,x2)
      have jC:lZ m set (x1,x2)=(ws.take (i+1)).foldl (lZ m) [0]:=by
       rw[List.take_add_one,HX.out,Option.toList_some,List.foldl_append,<-aqW.out];rfl
      obtain⟨nx,xw⟩:=zF (lZ m set (x1,x2));rw[xw] at jm oO jA jC;obtain⟨pO,Po,HBL,qV,ah8⟩:=zK5 (zH jm) (zH oO) (zH jA) (zH jC) (zH (wV.seq eP));clear jm oO jA jC hMr PQ aH eP wV aI bZ xw S7 aiX aiY hXQ
      gi_wp2_with (refine⟨trivial,?_⟩;gi_at_call 63;refine (t6.2 pO).mono ?_
                   rintro e w8 ⟨v8,rfl,MJ,eX⟩;obtain⟨A8,c8,ev,uM,-,-⟩:=MJ.row jd zD;subst ev;obtain⟨n8,UW⟩:=zF nx.length;rw[UW] at uM ⊢;have Ac:=zH (ah8.seq eX);obtain⟨TU,HN8⟩:=zJ2 uM UW
                   clear MJ uM eX UW)
      go_roundw
      case rel=>exact⟨i+1,nx,A8,n8,c8,zO,by go_num,rfl,qV,TU.Sv (λ_ h=>h.2),Po,by have:=HBL.out;have:=HN8.out;omega,Ac.out⟩
      case measure=>simp[intOf];omega
     ·obtain rfl:i=n:=by omega
      have jc:=zT2 (i<i);have Gh:ws.foldl (lZ m) [0]=set:=(by rw[aqW.out,l8 (by rw[pR.out];exact zR _)]);obtain⟨bk,jB⟩:=zF (EX set lv);have KN:=H8 g lv set A' n' c' wr _ aI zO PQ;rw[jB] at KN;have d11:=aO aiY;have hRR:=qG.out;rw[Gh,jB] at hRR;obtain⟨KO,nG,HXQ,aDP,aDQ,PG,adX,aeJ⟩:=zJ8 KN aH hXQ aiX aiY hMr PQ wV;obtain⟨lM,sV⟩:=zJ2 aI bZ;clear KN aH hXQ aiX aiY hMr PQ wV aI bZ Gh jB qG;cases bk
      ·rw[j6 rfl] at hRR
       subst hRR
       gi_wp2_with (refine⟨trivial,?_⟩;gi_at_call 74;refine (t6.2 KO).mono ?_;rintro e w8 ⟨rfl,eX⟩;have V0:=ae HXQ eX;have z0:=aO V0;have f0:=k8 w8 (w.heap.size+1) 0 _ _ V0)
       refine qc [] _ ⟨List.nodup_nil,λD h=>(by simp at h)⟩ λwL Tv=>?_;have VL:wL.heap[w.heap.size+1]?=Zc #[()] 58:=bF (bD V0) Tv zP;have zL:=aO VL;refine⟨.tuple #[(),false,(4:Int)],by simp[results,results30,go_sem,zL],_,rfl,ax.nil _ _ _ _ _,?_⟩;exact((nG.seq eX).setCell (p:=⟨w.heap.size+1,0,none⟩) (Nat.le_succ _) _).trans (Tv.below (by have h5:=(nG.seq eX).size;simp;omega) (λ_ _ h=>by simp at h))
      ·rw[j5 zP] at hRR
       have qG:=zH hRR;clear hRR
       gi_wp2_with (refine⟨trivial,?_⟩;gi_at_call 74;refine (t6.2 KO).mono ?_
                    rintro e w8 ⟨rfl,eX⟩;have hs8:wr.heap.size<=w8:=eX.size;have Ac:=zH eX
                    clear eX d11)
       obtain⟨kk,aDR⟩:=zE k;subst aDR;have axb:Bw w4 w8:=((HBX.seq ao5).seq aeJ).seq Ac;have axc:Gs w8 (λq=>q<w4/\q≠w+1) bm m:=HMF.keep λq hq=>⟨hq,axb.block q hq.1⟩;have axd:jY w8 g lv:=adX.keep (Ac.block g adX.lt);have hV8:=ae HXQ Ac;have uM:aY w8 (λq=>q<w8/\q≠w+1) 1 aV set A' n':=((lM.below Ac).Sv (F':=(· <w8)) (λ_ h=>d4 h hs8)).aw8 (al4 hV8);have aiZ:Bw w w8:=nG.seq Ac;obtain⟨HV8,ai0,aDS,ao6,axf,TU,YZ,Du⟩:=zK8 (zH hV8) (zH (ae aDP Ac)) (zH (ae aDQ Ac)) (zH axc) (zH axd) (zH uM) (zH aiZ) (zH uM.1);have HGX:=zH Pg;clear axb axc axd hV8 uM aiZ;have aJa:w4.heap.size<w8:=zO;have aJb:w5.heap.size<w8:=zO
       refine wpIn_loop (λa' W=>∃(u16 u54 u55 u56 u57 u58 u59 u76:Value) (ds:List Nat) (k:Nat) (v:Value),(k<=n'/\W.heap[w.heap.size+1]?=Zc #[v] 58/\ax W w8 3 1 aV ((set.take k).flatMap (NF m lv)) v/\Kept (λq=>q=w+1\/w8<=q) w8 W/\ji ds W/\∀D∈ds,¬D<w8)/\
                  a'={ tmps:=#[.agg #[.int .i64 kk,.int .i64 mn,.int .i64 mx,.int .i64 el,.int .i64 ck,.string ns,.string nl,.string sp,.slice A1 n1 c1,.slice A2 n2 c2,.int .i64 pr,.slice A0 n0 c0],.slice eA en ec,.slice A i c,.pointer (some ⟨w,0,none⟩),undef,undef,.pointer (some ⟨w.heap.size+1,0,none⟩),.bool false,.int .i64 0,.int .i64 0,.pointer (some ⟨w4,0,none⟩),.pointer (some ⟨w5,0,none⟩),.slice A' n' c',undef,u14,undef,u16,undef,.agg #[.int .i64 kk,.int .i64 mn,.int .i64 mx,.int .i64 el,.int .i64 ck,.string ns,.string nl,.string sp,.slice A1 n1 c1,.slice A2 n2 c2,.int .i64 pr,.slice A0 n0 c0],.slice eA en ec,.int .i64 0,.int .i64 0,.bool false,undef,.slice A i c,.int .i64 (i:Int),.bool false,.slice A i c,.bool true,.bool false,.agg #[.int .i64 kk,.int .i64 mn,.int .i64 mx,.int .i64 el,.int .i64 ck,.string ns,.string nl,.string sp,.slice A1 n1 c1,.slice A2 n2 c2,.int .i64 pr,.slice A0 n0 c0],.slice eA en ec,.pointer (some ⟨bm,0,none⟩),.pointer (some ⟨bm,0,none⟩),.map (some g),.slice (some ⟨wy,0,none⟩) 1 1,.slice A i c,.int .i64 (i:Int),.int .i64 (i:Int),.bool false,u40,u41,u42,u43,u44,u45,u46,.slice A' n' c',.map (some g),.bool true,.bool false,.slice A' n' c',.int .i64 (n':Int),.int .i64 (k:Int),u54,u55,u56,u57,u58,u59,undef,undef,undef,undef,undef,undef,undef,undef,undef,undef,undef,undef,undef,undef,undef,undef,u76,undef,undef,undef,undef,undef,undef,undef],defers:=ds.map abp })
        (λa' _=>n' - (intOf (a'.tmps.getD 53 undef)).toNat) ?start ?round
       case start=>exact⟨_,_,_,_,_,_,_,_,[],0,_,⟨zO,HV8,ax.nil _ _ _ _ _,Kept.refl _ _,⟨List.nodup_nil,λD h=>(by simp at h)⟩,λD h=>(by simp at h)⟩,rfl⟩
       case round=>
        rintro _ wq ⟨u16,u54,u55,u56,u57,u58,u59,u76,ds,k,v,⟨hk,hv,dV,eF,FU,Oq⟩,rfl⟩;have Ot:=zH Oq;clear Oq;(try dsimp only);have aJc:w8.heap.size<=wq:=eF.size;by_cases aN:k<n'
        ·have jV:decide (k<n')=true:=by simp;omega
         have iO:∀q,q<w8.heap.size->q≠w.heap.size+1->wq.heap[q]?=w8.heap[q]?:=λq h dD=>eF.block q h zO;have CE:aY wq (λq=>q<w8.heap.size/\q≠w.heap.size+1) 1 aV set A' n':=TU.keep λq h=>⟨h,iO q h.1 h.2⟩;obtain⟨sb,so,s,yD,jw,dO⟩:=CE.nat aN c';have T10:=bF ai0 eF zO;obtain⟨d10,HV,qC,pW,ads,zY⟩:=zK6 (aO T10) (zH hv) (zH dV) (zH eF) (zH iO) (zH FU);clear T10 hv dV eF CE iO FU
         gi_wp2_with (refine⟨trivial,?_⟩;gi_at_call 82;refine (t6.2 (RU bm s wq)).mono ?_;rintro e w9 ⟨rfl,U1,U2,e9,uF⟩)
         have hl9:∀q,q<w4.heap.size/\q≠w.heap.size+1->w9.heap[q]?=w8.heap[q]?:=λq hq=>(uF.block q zO).trans (ads q zO hq.2);have hM9:Gs w9 (λq=>q<w4.heap.size/\q≠w.heap.size+1) bm m:=ao6.keep λq hq=>⟨hq,hl9 q hq⟩;obtain⟨rl,AU,kP,yQ⟩:=ao4 m (λq=>q<w4.heap.size/\q≠w.heap.size+1) bm wq (wq.heap.size+1) s w9 (λq=>q=w.heap.size+1\/(w8.heap.size<=q/\q<wq.heap.size)) hM9 jr (λq hq=>by have h:=hq.1;omega) U1 U2 (λq hq=>⟨λh=>by have h1:=h.1;have h2:=h.2;rcases hq with hq | hq<;>omega,by rcases hq with hq | hq<;>omega,by rcases hq with hq | hq<;>omega⟩) ((sV s (SK yD)).ok jr);have hlen:rl.length<=300000:=(by rw[<-z8 (f:=(·.1)),AU];exact wu s);obtain⟨BR,HRC,pR,Hb9,HE9,HL9⟩:=zJ6 AU kP hlen uF e9 hl9;obtain⟨o0,Dw⟩:=zF ((set.take k).flatMap (NF m lv));rw[Dw] at qC
         have adt:o0.length+300000<1000000000000:=by
          have h0:o0.length<=k*300000:=by
           rw[<-Dw];refine zT (ag2 wu _ _) (Nat.mul_le_mul_right _ ?_);rw[Ju];omega
          have h1:k*300000<=1000000*300000:=Nat.mul_le_mul_right _ zO;omega
         obtain⟨HO0,HOL⟩:=zJ2 Dw adt;clear AU kP hM9 hlen Dw adt U1 U2 d10 jw hl9 uF;obtain⟨IR2,axh⟩:∃I:List SP->World->Prop,I=(λpre W=>∃v',W.heap[w.heap.size+1]?=some (.cells #[v'] 58)/\ax W w8 3 1 aV (o0++(pre.filter (nxF m lv)).map (·.1.num)) v'/\(∀q,v'.ownBlock=some q->q<wq.heap.size\/w9.heap.size+2<=q)/\Kept (λq=>q=w.heap.size+1\/w8.heap.size<=q) w8 W/\ji ds W):=⟨_,rfl⟩;have He:=zH axh;clear axh e9
         refine Lp (gf:=145) (lb:=#[.pointer (some ⟨wq,0,none⟩),.pointer (some ⟨wq.heap.size+1,0,none⟩)]) rfl (enters_of func145 zK rfl) yQ (Kept.refl _ _) (λq hq=>by have e9:=HE9.out;rcases hq with hq | hq<;>omega) (λ_=>rfl)
          IR2
          (λ_ _ _=>False) ?hI ?hL (λ_ _ _ _ h=>h.elim) ?h0
          (λx W=>{ tmps:=#[.agg #[.int .i64 kk,.int .i64 mn,.int .i64 mx,.int .i64 el,.int .i64 ck,.string ns,.string nl,.string sp,.slice A1 n1 c1,.slice A2 n2 c2,.int .i64 pr,.slice A0 n0 c0],.slice eA en ec,.slice A i c,.pointer (some ⟨w,0,none⟩),undef,undef,.pointer (some ⟨w.heap.size+1,0,none⟩),.bool false,.int .i64 0,.int .i64 0,.pointer (some ⟨w4,0,none⟩),.pointer (some ⟨w5,0,none⟩),.slice A' n' c',undef,u14,undef,.int .i64 s,.pointer (some ⟨W,0,none⟩),.agg #[.int .i64 kk,.int .i64 mn,.int .i64 mx,.int .i64 el,.int .i64 ck,.string ns,.string nl,.string sp,.slice A1 n1 c1,.slice A2 n2 c2,.int .i64 pr,.slice A0 n0 c0],.slice eA en ec,.int .i64 0,.int .i64 0,.bool false,undef,.slice A i c,.int .i64 (i:Int),.bool false,.slice A i c,.bool true,.bool false,.agg #[.int .i64 kk,.int .i64 mn,.int .i64 mx,.int .i64 el,.int .i64 ck,.string ns,.string nl,.string sp,.slice A1 n1 c1,.slice A2 n2 c2,.int .i64 pr,.slice A0 n0 c0],.slice eA en ec,.pointer (some ⟨bm,0,none⟩),.pointer (some ⟨bm,0,none⟩),.map (some g),.slice (some ⟨wy,0,none⟩) 1 1,.slice A i c,.int .i64 (i:Int),.int .i64 (i:Int),.bool false,u40,u41,u42,u43,u44,u45,u46,.slice A' n' c',.map (some g),.bool true,.bool false,.slice A' n' c',.int .i64 (n':Int),.int .i64 (k:Int),.bool true,.pointer (some ⟨sb,so+k,none⟩),.int .i64 s,.pointer (some ⟨bm,0,none⟩),.int .i64 s,.func (.func 145) #[] #[.pointer (some ⟨wq,0,none⟩),.pointer (some ⟨wq.heap.size+1,0,none⟩)],.agg #[.int .i64 x.1.dst,.int .i64 x.1.num,.int .i64 x.2.k,.int .i64 x.2.mn,.int .i64 x.2.mx,.int .i64 x.2.el,.int .i64 x.2.ck,.string x.2.ns,.string x.2.nl,.string x.2.sp,.slice x.2.A1 x.2.n1 x.2.c1,.slice x.2.A2 x.2.n2 x.2.c2,.int .i64 x.2.pr,.slice x.2.A x.2.n x.2.c],undef,undef,undef,undef,undef,undef,undef,undef,undef,undef,undef,undef,undef,undef,undef,u76,undef,undef,undef,undef,undef,undef,undef],defers:=[] })
          (λx W=>W.alloc (Zc #[x.1.dst,x.1.num,x.2.k,x.2.mn,x.2.mx,x.2.el,x.2.ck,x.2.ns,x.2.nl,x.2.sp,(x.2.A1,x.2.n1,x.2.c1),(x.2.A2,x.2.n2,x.2.c2),x.2.pr,(x.2.A,x.2.n,x.2.c)] 139)) (λ_ W=>(j9 _ _).alloc (zR _) _) ?assign ?body ?done (λ_ _ _ _ h=>h.elim)
         case hI=>
          intro pre A' B' h0 _ hb;rw[He.out] at h0 ⊢;obtain⟨v',h1,h2,h3,h4,h5⟩:=h0;exact⟨v',ae h1 hb,h2.bu λq hq=>hb.block q (aS h2 q hq.symm).2,h3,h4.trans (Qh hb),h5.below hb⟩
         case hL=>
          intro pre A' B' h0 _ fM;rw[He.out] at h0 ⊢;obtain⟨v',h1,h2,h3,h4,h5⟩:=h0;have e9:=HE9.out;exact⟨v',bF h1 fM zO,h2.bu λq hq=>fM.block q (aS h2 q hq.symm).2 (by have:=h3 q hq;omega),h3,h4.trans (fE fM λq hq=>by omega),h5.keep λD hD=>fM.block D (aC (h5.2 D hD)) (by have:=aC (zY.2 D hD);omega)⟩
         case h0=>
          intro W mV _;rw[He.out];have hb:=Hb9.seq mV;refine⟨v,ae HV hb,?_,λq hq=>.inl (aS qC q hq.symm).2,pW.trans (Qh hb),zY.below hb⟩;rw[List.filter_nil,List.map_nil,m8];exact qC.bu λq hq=>hb.block q (aS qC q hq.symm).2
         case assign=>
          intro mm l x W K hK;simp only[spE,UO,EK,Ha.cells,m7,d6];gi_wp2;exact hK
         case body=>
          rintro mm l pre ⟨y,⟨kx,gU,gz,gZ,ig,ik,iq,iw,iy,iC,iD,iE,iF,iG,iH,Ax,nx,cx⟩⟩ W W2 hI2 mM o8 hkW;rw[He.out] at hI2;obtain⟨v',h1,h2,h3,h4,h5⟩:=hI2;have XC:(W.alloc (Zc #[y.dst,y.num,kx,gU,gz,gZ,ig,ik,iq,iw,(iy,iC,iD),(iE,iF,iG),iH,(Ax,nx,cx)] 139)).heap.size=W.heap.size+1:=zS4;have hW2:W.heap.size+1<=W2:=(by rw[<-XC];exact hkW.size);have e9:=HE9.out;have S9:W2.heap[W.heap.size]?=Zc #[y.dst,y.num,kx,gU,gz,gZ,ig,ik,iq,iw,(iy,iC,iD),(iE,iF,iG),iH,(Ax,nx,cx)] 139:=bF (heap_alloc_new W _) hkW zO;obtain⟨x0,x1,x2,x3,x4,x5,x6,x7,x8,x9,yM,yN,x12,x13⟩:=KA S9;have d10:=aO (bF ai0 h4 zO);have d11:=aO (bF aDS h4 zO);have iO:∀q,q<w4.heap.size/\q≠w.heap.size+1->W2.heap[q]?=w8.heap[q]?:=λq hq=>h4.block q zO zO;have hMW:mO W2 w4 bm m:=(ao6.keep (F':=(· <w4)) λq hq=>⟨hq.1,iO q hq⟩).r;have jb:(y,(⟨kx,gU,gz,gZ,ig,ik,iq,iw,iy,iC,iD,iE,iF,iG,iH,Ax,nx,cx⟩:Ha))∈rl:=mM.subset zP;have bH:au W2 (· <w4) (aZ y.leaf) [kx,gU,gz,gZ,ig,ik,iq,iw,(iy,iC,iD),(iE,iF,iG),iH,(Ax,nx,cx)]:=(HRC _ jb).keep λq hq=>⟨hq.1,(iO q hq).trans (HL9 q hq).symm⟩;have XV:y∈gK m s:=(by rw[<-BR.out];exact List.mem_map_of_mem (f:=(·.1)) jb)
          have KC:xE m.elems y.leaf:=Oo jr (s:=s) XV;have aDT:=axf.lt;have PQ:jY W2 g lv:=axf.keep (h4.block g aDT (by have:=HGX.out;omega));have adM:Bw w W2:=YZ.trans (h4.below zO zO);have ayq:=PQ.look y.dst;obtain⟨dv,hdv⟩:=zF (decide (y.dst∈lv));rw[hdv] at ayq;obtain⟨sv,hsv⟩:=zF (Hr m.elems y.leaf)
          have XW:Hid (Rt 83 #[(bm,0),.agg (o5 kx gU gz gZ ig ik iq iw iy iC iD iE iF iG iH Ax nx cx)] W2 sv):=zH (by
           have h:=aas m w4 bm y.leaf _ W2 hMW zO bH KC (HT.below adM)
           rw[hsv] at h;exact h)
          have adw:(pre++[(y,(⟨kx,gU,gz,gZ,ig,ik,iq,iw,iy,iC,iD,iE,iF,iG,iH,Ax,nx,cx⟩:Ha))]).filter (nxF m lv)=pre.filter (nxF m lv)++(if (dv&&sv)=true then [(y,(⟨kx,gU,gz,gZ,ig,ik,iq,iw,iy,iC,iD,iE,iF,iG,iH,Ax,nx,cx⟩:Ha))] else []):=by
           rw[List.filter_append]
           congr 1
           rw[<-hdv,<-hsv];simp only[List.filter_cons,List.filter_nil,nxF]
           first | done | rfl | (split<;>rfl)
          obtain⟨o1,uz⟩:=zF (o0++(pre.filter (nxF m lv)).map (·.1.num));rw[uz] at h2
          have adx:o1.length<1000000000000:=by
           have h5:(pre.filter (nxF m lv)).length<=pre.length:=List.length_filter_le _ _;have h6:pre.length<=rl.length:=(by have:=mM.length_le;rw[z5] at this;omega);have h7:=pR.out;have h8:=HOL.out;rw[<-uz,z5,z8];omega
          obtain⟨ady,DY,anv,H1,H2,H3,H4,XD⟩:=zJ8 adw uz adx h1 h2 h3 h4 S9;have H5:=zH h5;clear adw uz adx h1 h2 h3 h4 h5 S9 hMW bH KC PQ adM jb XV iO mM hdv hsv hkW XC e9
          have hI0:∀W3:World,Bw W2 W3->(if (dv&&sv)=true then [(y,(⟨kx,gU,gz,gZ,ig,ik,iq,iw,iy,iC,iD,iE,iF,iG,iH,Ax,nx,cx⟩:Ha))] else [])=[]->IR2 (pre++[(y,(⟨kx,gU,gz,gZ,ig,ik,iq,iw,iy,iC,iD,iE,iF,iG,iH,Ax,nx,cx⟩:Ha))]) W3:=λW3 hb he=>by
           rw[He.out];refine⟨v',ae H1 hb,?_,H3,H4.trans (Qh hb),H5.below hb⟩;rw[ady.out,he,m8,DY.out];exact H2.bu λq hq=>hb.block q (aS H2 q hq.symm).2
          have HI0:=zH hI0;clear hI0;cases dv
          ·gi_wp2_with (refine Zi (λ_=>True.intro) (by first | rfl | decide) ?_;(try simp only[Act.put,dG,dH,dI]))
           exact⟨Kept.refl _ _,HI0 _ (j9 _ _) rfl⟩
          ·cases sv
           ·gi_wp2_with (refine⟨trivial,(λh=>by cases h),?_⟩;gi_at_call 83;refine ((t6.2 XW).inRound l).mono ?_;rintro e Yj ⟨rfl,OQ⟩;have Y8:=zH OQ;clear OQ)
            exact⟨Qh Y8,HI0 _ Y8 rfl⟩
           ·gi_wp2_with (first
             | (refine⟨trivial,(λh=>by cases h),?_⟩;gi_at_call 83;refine ((t6.2 XW).inRound l).mono ?_;rintro e Yj ⟨rfl,OQ⟩
                have V7:=ae H1 OQ;have c7:=aO V7;clear x0 x1 x2 x3 x4 x5 x6 x7 x8 x9 yM yN x12 x13;obtain⟨-,x1,-⟩:=KA (ae XD OQ);obtain⟨MQ,aJd,S8,aJe,axj⟩:=af Yj (Zc #[y.num] 3);have dY:=OQ.seq axj;have XK:ax MQ w8 3 1 aV o1 v':=H2.bu λq hq=>dY.block q (aS H2 q hq.symm).2;have s78:W2.heap.size<=MQ:=dY.size;obtain⟨v2,uH,bG,zq,rQ,FQ⟩:=Jk MQ w8 o1 v' XK Yj 1 y.num (aO S8) anv (by have:=H4.size;omega) 58;obtain⟨B2,b2,rfl⟩:=zq.form;obtain⟨nb,gX⟩:=zF ((o1++[y.num]).length);rw[gX] at bG zq FQ;have V9:uH.heap[w.heap.size+1]?=Zc #[v'] 58:=(rQ.block _ (by have:=aC V7;omega) (λe=>by have:=(aS H2 _ e).1;omega)).trans (ae V7 axj);obtain⟨c9,f9,qB,HO9,sD,HK9,HV9,Eh⟩:=zK8 (aO V9) (k8 uH (w.heap.size+1) 0 _ _ V9) (zH bG) (zH zq) (zH rQ) (zH FQ) (zH V9) (zH dY);have HSW:=zH s78
                clear gX bG zq rQ FQ V9 V7 dY XK s78 S8)
             | (refine XT ?_;refine zt rfl (.tmp 71) (.tmp 74) 58 rfl rfl rfl qB ?_))
            have ahQ:Kept (λq=>(q=w+1\/(w8<=q/\q<wq))\/w9+2<=q) W2 (uH.setCell (w.heap.size+1,0) (B2,nb,b2)):=by
             have k1:Kept (λq=>(q=w+1\/(w8<=q/\q<wq))\/w9+2<=q) W2 MQ:=Qh Eh
             have k2:Kept (λq=>(q=w+1\/(w8<=q/\q<wq))\/w9+2<=q) MQ uH:=⟨sD.os,sD.tape,sD.output,sD.size,λq hq hn=>sD.block q hq (λe=>by
                         have h5:=(aS H2 q e).1
                         rcases H3 q e.symm with h6 | h6
                         ·exact hn (.inl (.inr ⟨h5,h6⟩))
                         ·exact hn (.inr h6))⟩
             exact(k1.trans k2).setCell (p:=⟨w.heap.size+1,0,none⟩) (.inl (.inl (.inl rfl))) _
            have dD:∀q,(Value.slice B2 nb b2).ownBlock=some q->w8.heap.size<=q/\(q<wq.heap.size\/w9.heap.size+2<=q):=λq hq=>by
             rcases HK9.out with h5 | h5
             ·have h6:=h5.symm.trans hq
              exact⟨(aS H2 q h6.symm).1,H3 q h6⟩
             ·have h6:=zI (h5.symm.trans hq)
              have:=HSW.out;have:=H4.size;exact⟨zO,.inr zO⟩
            have jl:Kept (λq=>q=w.heap.size+1\/w8.heap.size<=q) w8 (uH.setCell (w.heap.size+1,0) (B2,nb,b2)):=by
             have k2:Kept (λq=>q=w.heap.size+1\/w8<=q) MQ uH:=⟨sD.os,sD.tape,sD.output,sD.size,λq hq hn=>sD.block q hq (λe=>hn (.inr (aS H2 q e).1))⟩;exact((H4.trans (Qh Eh)).trans k2).setCell (p:=⟨w.heap.size+1,0,none⟩) (.inl (.inl rfl)) _
            have PL:ji ds uH:=(H5.below Eh).keep λD hD=>sD.block D (aC ((H5.below Eh).2 D hD)) (λe=>by
             obtain⟨cs,fJ⟩:=H2.bC e.symm
             exact H5.ne fJ D hD rfl)
            have hd6:ji ds (uH.setCell (w.heap.size+1,0) (B2,nb,b2)):=PL.keep λD hD=>gq (PL.ne HV9 D hD);refine⟨ahQ,?_⟩;rw[He.out];refine⟨_,bD HV9,?_,λq hq=>(dD q hq).2,jl,hd6⟩;rw[ady.out];simp only[Bool.and_self,if_true,Qb,Jm,List.map_nil,<-d7];rw[DY.out];exact HO9.bu λq hq=>gq (by have:=dD q hq;omega)
         case done=>
          intro xs W hxs hI2 hK;rw[He.out] at hI2;obtain⟨v',h1,h2,h3,h4,h5⟩:=hI2;subst hxs
          have XL:ji (w9.heap.size::ds) W:=⟨List.nodup_cons.2 ⟨λh=>by have:=aC (zY.2 _ h);have e9:=HE9.out;omega,h5.1⟩,λD hD=>by
           rcases TT.1 hD with rfl | hD
           ·exact hK
           ·exact h5.2 D hD⟩
          have jC:(set.take (k+1)).flatMap (NF m lv)=o0++(xs.filter (nxF m lv)).map (·.1.num):=by
           rw[List.take_add_one,yD.out,Option.toList_some,l6,List.flatMap_singleton,HO0.out]
           congr 1
           unfold NF;rw[<-BR.out,List.filter_map,List.map_map];rfl
          obtain⟨Ky,H1,H2,H4,HDS⟩:=zJ5 jC h1 h2 h4 XL;clear h1 h2 h3 h4 h5 hK XL jC;(try simp only[Exit.inBlock,Exit.then]);gi_wp2
          refine⟨⟨_,_,_,_,_,_,_,_,w9.heap.size::ds,k+1,v',⟨zO,H1,by rw[Ky.out];exact H2,H4.out,HDS.out,λD hD=>by
           rcases TT.1 hD with rfl | hD
           ·have e9:=HE9.out;omega
           ·exact Ot D hD⟩,rfl⟩,?_⟩
          simp[intOf];omega
        ·obtain rfl:k=n':=by omega
         have jV:=zT2 (k<k);have jo:set.take k=set:=l8 (by rw[<-Du.out];exact zR _);rw[jo] at dV;obtain⟨o0,Dw⟩:=zF (set.flatMap (NF m lv));rw[Dw] at dV
         have XJ:o0.length<1000000000000:=by
          rw[<-Dw];refine Qe (ag2 wu _ _) (Qe (Nat.mul_le_mul_right _ (show set.length<=1000000 by rw[<-Du.out];exact CO)) zD)
         obtain⟨Av,cv,rfl⟩:=dV.form;obtain⟨nv,FV⟩:=zF o0.length;rw[FV] at dV hv;have c7:=aO hv;have Xq:=aaA w8 o0 _ wq dV XJ;obtain⟨yD,HV,qC,pW,zY,HO0,HOL⟩:=zJ7 Xq hv dV eF FU Dw XJ;have axk:=zH (bF ai0 eF zO);clear Xq hv dV eF FU Dw XJ jo FV
         gi_wp2_with (refine⟨trivial,?_⟩;gi_at_call 84;refine (t6.2 yD).mono ?_
                      rintro e qi ⟨rfl,l',Kz,zo,Ed,CY⟩;obtain⟨HP,HPW,aDU,OX⟩:=zJ4 Kz zo Ed CY
                      clear Kz zo Ed CY c7)
         have V20:qi.heap[w.heap.size+1]?=Zc #[(Av,nv,cv)] 58:=(OX.block _ (aC HV) (λe=>by have:=(aS qC _ e).1;omega)).trans HV;have X20:qi.heap[w4.heap.size]?=Zc #[(bm,0)] 93:=(OX.block _ (aC axk) (λe=>by have:=(aS qC _ e).1;omega)).trans axk;have yC:=RX w8 l' _ qi.drew (show ax qi.drew w8 3 1 aV l' (Av,nv,cv) from aDU) HPW (by rw[HP.length_eq];exact HOL);obtain⟨RY,axn,axo⟩:=zJ3 yC V20 X20;have l9:prog.follows .mixedOrders=true:=zS2;have hHeld:qi.drew.cell? (w.heap.size+1,0)=(Av,nv,cv)/\qi.drew.cell? w4=(bm,0):=⟨aO V20,aO X20⟩;clear yC V20 X20;refine aP.ak2 (λV=>V.cell? (w.heap.size+1,0)=(Av,nv,cv)/\V.cell? w4=(bm,0)) 5 zK ?_;refine aP.tk 0 5 [] hHeld ?_;refine aP.tk 2 4 [5] hHeld ?_;refine aP.zJ (i:=3) (v:=?vi3) rfl (aB rfl) zK zK zK zD (λ_ _ _ h=>h) ⟨Or.inl ⟨zL,?yi3⟩,λ_=>rfl⟩ hHeld ?ri3
         case yi3=>(intro w hSw;(try dsimp only at hSw);go_simp);all_goals (try with_reducible rfl)
         (try simp only[Act.put,dG,dH,dI]);refine aP.on 1 λK hK=>?_;go_simp;refine⟨trivial,?_⟩;gi_at_call 85;refine (t6.2 RY).mono ?_;rintro e MS ⟨v21,rfl,Tn,LQ,axp⟩;obtain⟨A21,c21,rfl⟩:=Tn.form;obtain⟨n21,ao7⟩:=zF ((sset l').length);rw[ao7] at Tn axp ⊢;have V21:MS.heap[w.heap.size+1]?=Zc #[(Av,nv,cv)] 58:=(LQ.block _ (aC axn) (λe=>by have:=(aS qC _ e).1;omega)).trans axn;have X21:MS.heap[w4.heap.size]?=Zc #[(bm,0)] 93:=(LQ.block _ (aC axo) (λe=>by have:=(aS qC _ e).1;omega)).trans axo;have s20:wq.heap.size<=qi:=OX.size;have s21:qi.heap.size<=MS:=LQ.size;have ao8:Kept (λq=>q=w+1\/w8<=q) w8 MS:=(pW.trans ⟨OX.os,OX.tape,OX.output,OX.size,λq hq hn=>OX.block q hq (λe=>hn (.inr (aS qC q e).1))⟩).trans ⟨LQ.os,LQ.tape,LQ.output,LQ.size,λq hq hn=>LQ.block q hq (λe=>hn (.inr (aS qC q e).1))⟩;have iO:∀q,q<w8.heap.size->q≠w.heap.size+1->MS.heap[q]?=w8.heap[q]?:=λq h dD=>ao8.block q h zO;have axr:mO MS w4 bm m:=(ao6.keep (F':=(· <w4)) λq hq=>⟨hq.1,iO q (by have:=hq.1;omega) hq.2⟩).r;have aqX:aY MS (λq=>q<w8.heap.size/\q≠w.heap.size+1) 1 aV set A' k:=TU.keep λq h=>⟨h,iO q h.1 h.2⟩;have axs:=Ip m w4 bm set A' k c' MS _ axr zO aqX zO (λs hs=>((sV s hs).ok jr).2)
         have Ef:ji ds qi:=zY.keep λD hD=>OX.block D (aC (zY.2 D hD)) (λe=>by
          obtain⟨cs,fJ⟩:=qC.bC e.symm
          exact zY.ne fJ D hD rfl)
         have axt:ji ds MS:=Ef.keep λD hD=>LQ.block D (aC (Ef.2 D hD)) (λe=>by
          obtain⟨cs,fJ⟩:=qC.bC e.symm
          exact zY.ne fJ D hD rfl)
         obtain⟨aey,ao9,aJf,apa,apb,aDV⟩:=zJ6 axs Tn ao7 ao8 axt V21;refine hK _ _ (λ_=>⟨aO V21,aO X21⟩) ?_;clear hK K hHeld axs Tn ao7 ao8 axt V21 X21 Ef aqX axr iO LQ axp;(try simp only[Act.put,dG,dH,dI]);refine aP.on 4 λK hK=>?_;go_simp;refine⟨trivial,?_⟩;gi_at_call 59;refine (t6.2 aey).mono ?_;rintro e KX ⟨rfl,ai1⟩;have V22:=ae aDV ai1;have z22:=aO V22;have f22:=k8 KX (w.heap.size+1) 0 _ _ V22;have ama:KX.cell? (w.heap.size+1,0)=(Av,nv,cv)/\KX.cell? w4=(bm,0):=⟨z22,aO (ae (bF ai0 apa zO) ai1)⟩;have ai2:=zH ai1;refine hK _ _ (λ_=>ama) ?_;clear hK K ai1 ama;(try simp only[Act.put,dG,dH,dI]);refine aP.oe 5 ?_;(try simp only[Act.put,dG,dH,dI]);refine aP.oe 6 ?_;(try simp only[Act.put,dG,dH,dI]);refine aP.oe 7 ?_;(try simp only[Act.put,dG,dH,dI]);refine aP.dn ?_;(try simp only[abq]);gi_wp2;have aDW:ji ds (KX.setCell (w.heap.size+1,0) (A21,n21,c21)):=(apb.below ai2).keep λD hD=>gq ((apb.below ai2).ne V22 D hD);refine qc ds _ aDW λw23 apc=>?_;have aDX:w23.heap[w.heap.size+1]?=Zc #[(A21,n21,c21)] 58:=bF (bD V22) apc (λh=>Ot _ h zO);have z23:=aO aDX
         have aDY:∀q,(Value.slice A21 n21 c21).ownBlock=some q->q ∉ ds:=λq hq hD=>by
          obtain⟨cs,fJ⟩:=ao9.bC hq;exact apb.ne fJ q hD rfl
         have Gh:sset l'=sset (set.flatMap (NF m lv)):=by
          rw[HO0.out];exact adr λx=>HP.mem_iff
         have apd:ax KX w8 3 1 aV (sset l') (A21,n21,c21):=ao9.bu λq hq=>ai2.block q (aS ao9 q hq.symm).2;have aDZ:ax w23 w8 3 1 aV (sset l') (A21,n21,c21):=(apd.bu (w':=KX.setCell ⟨w.heap.size+1,0,none⟩ (.slice A21 n21 c21)) λq hq=>gq (by have:=(aS apd q hq.symm).1;omega)).bu λq hq=>apc.block q (by have:=(aS apd q hq.symm).2;simpa using this) (aDY q hq);have lY:=YZ.size
         have dY:Bw w w23:=by
          have h1:=YZ.trans (apa.below (B:=w) zO zO);have h2:=h1.trans (ai2.mono (by have:=apa.size;omega));exact(h2.setCell (p:=⟨w.heap.size+1,0,none⟩) (Nat.le_succ _) _).trans (apc.below (by have:=h2.size;simp;omega) (λq hq h=>Ot q h zO))
         have hRR:=qG.out;subst hRR;exact⟨.tuple #[(A21,n21,c21),(qA m set),(0:Int)],by simp[results,results30,go_sem,z23],_,rfl,by rw[<-Gh];exact aDZ.low zO,dY⟩
   ·rw[j6 rfl] at hR
    subst hR;refine (t6 (n:=3)).1 ?_;refine callsIn_of_wp_marks func30 rfl trivial ?_ rfl;simp only[ntmps30,YV,z9,z24,Nat.reduceAdd,Nat.reduceSub,Ze,Zd,List.push_toArray,ZD,d6,m7]
    gi_wp2_with (first
     | (refine⟨trivial,?_⟩;gi_at_call 13;refine (t6.2 uC).mono ?_
        rintro e w2 ⟨rfl,ag⟩
        have adS:=zH (nK.seq ag);have HV2:=zH (ae Jc ag))
     | (refine⟨trivial,?_⟩;gi_at_call 48;refine (t6.2 (adV _ adS)).mono ?_;rintro e w3 ⟨rfl,az⟩;have V0:=ae HV2 az;have z0:=aO V0;have f0:=k8 w3 (w.heap.size+1) 0 _ _ V0))
    refine qc [] _ ⟨List.nodup_nil,λD h=>(by simp at h)⟩ λwL Tv=>?_;have VL:wL.heap[w.heap.size+1]?=Zc #[()] 58:=bF (bD V0) Tv zP;have zL:=aO VL;refine⟨.tuple #[(),false,(2:Int)],by simp[results,results30,go_sem,zL],_,rfl,ax.nil _ _ _ _ _,?_⟩;exact((adS.seq az).setCell (p:=⟨w.heap.size+1,0,none⟩) (Nat.le_succ _) _).trans (Tv.below (by have h5:=(adS.seq az).size;simp;omega) (λ_ _ h=>by simp at h))
 ·rw[j6 h0] at hR
  have jV:(E !=0)=true:=by simpa using h0
  have ER:decide (E≠0)=true:=by simpa using h0
  subst hR;refine (t6 (n:=3)).1 ?_;refine callsIn_of_wp_marks func30 rfl trivial ?_ rfl;simp only[ntmps30,YV,z9,z24,Nat.reduceAdd,Nat.reduceSub,Ze,Zd,List.push_toArray,ZD,d6,m7]
  gi_wp2_with (refine⟨trivial,?_⟩;gi_at_call 13;refine (t6.2 uC).mono ?_;rintro e w2 ⟨rfl,ag⟩;have V0:=ae Jc ag;have z0:=aO V0;have f0:=k8 w2 (w.heap.size+1) 0 _ _ V0)
  refine qc [] _ ⟨List.nodup_nil,λD h=>(by simp at h)⟩ λwL Tv=>?_;have VL:wL.heap[w.heap.size+1]?=Zc #[()] 58:=bF (bD V0) Tv zP;have zL:=aO VL;refine⟨.tuple #[(),false,E],by simp[results,results30,go_sem,zL],_,rfl,ax.nil _ _ _ _ _,?_⟩;exact((nK.seq ag).setCell (p:=⟨w.heap.size+1,0,none⟩) (Nat.le_succ _) _).trans (Tv.below (by have h5:=(nK.seq ag).size;simp;omega) (λ_ _ h=>by simp at h))
end
