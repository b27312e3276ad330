import Derived.Test.YtgmnnegfndpakaaGreatDoorLivA
import Derived.Test.YtgmnnegfndpakaaGreatDoorH31
set_option maxHeartbeats 20000000
set_option maxRecDepth 100000
namespace Go.Proofs.YtgmnnegfndpakaaGreatDoor
open Go.RowKit
theorem Ir{m:eQ}(fQ:mQ m){set:List Nat}(h:∀s∈set,jv m s)(n:Nm):∀s∈lZ m set n,jv m s:=λs hs=>by
 unfold lZ at hs;rw[wI] at hs;obtain⟨t,ht,h1⟩:=List.mem_flatMap.1 hs;unfold IJ at h1;obtain⟨x,hx,rfl⟩:=List.mem_map.1 h1;exact(h t ht).step fQ (List.mem_filter.1 hx).1
theorem Jp{m:eQ}(fQ:mQ m){set:List Nat}(h:∀s∈set,jv m s)(n:Nm):(lZ m set n).length<=4297:=by
 have h1:(lZ m set n).Nodup:=(qW _).imp λh=>Nat.ne_of_lt h;exact zT (Ba _ _ h1 λs hs=>(Ir fQ h n s hs).lt) (EO fQ)
theorem ald{m:eQ}{live:List Nat}{ws:List Nm}{i:Nat}{x:Nm}(h:ws[i]?=some x)(set:List Nat):
 QK m live (ws.drop i) i set=if EX (lZ m set x) live then QK m live (ws.drop (i+1)) (i+1) (lZ m set x) else (false,i):=by
 obtain⟨hi,rfl⟩:=z4.1 h;rw[nZ hi,QK]
theorem aY.Sv{α:Type}{w:World}{F F':Nat->Prop}{sz:Nat}{cells:α->List Value}{l:List α}{A:Option Addr}{n:Nat}(h:aY w F sz cells l A n)(hF:∀k,F k->F' k):aY w F' sz cells l A n:=by
 refine⟨h.1,λhp=>?_⟩;obtain⟨b,off,h1,h2,h3⟩:=h.2 hp;exact⟨b,off,h1,hF _ h2,h3⟩
theorem Sz(p:aJ)(elems:List (List Nm))(ws:List Nm)(cs:List Value)(w:World)(eA:Option Addr)(en ec:Nat)(A:Option Addr)(n c:Nat)(hr:au w (· <w.heap.size) (aZ p) cs)(he:bM w (· <w.heap.size) 1 (elems.map nU) eA en)(jR:en<6000000000000)(hw:aY w (· <w.heap.size) 2 dK ws A n)(hn:n<6000000000000)(hT:Tab w):
 Rt 23 #[.agg cs.toArray,.slice eA en ec,.slice A n c] w (.tuple #[.bool (Fp p elems ws).1,.int .i64 (Fp p elems ws).2.1,.int .i64 (Fp p elems ws).2.2]):=by
 obtain⟨k,mn,mx,el,ck,ns,nl,sp,A1,n1,c1,A2,n2,c2,pr,A0,n0,c0,rfl,hk,-⟩:=aW hr;obtain⟨w1,bI,S1,nC,ai⟩:=af w (.cells #[.int .i64 k,.int .i64 mn,.int .i64 mx,.int .i64 el,.int .i64 ck,.string ns,.string nl,.string sp,.slice A1 n1 c1,.slice A2 n2 c2,.int .i64 pr,.slice A0 n0 c0] 29);have e1:w1.heap.size=w.heap.size+1:=(by rw[<-bI];simp);have q0:=aj S1;have SE:=BQ elems p _ eA en ec w1 _ _ (hr.below ai) (he.below ai) jR;obtain⟨E,hE⟩:=zF (kN elems p);obtain⟨R,hR⟩:=zF (Fp p elems ws);rw[hE] at SE;rw[hR];unfold Fp at hR;rw[hE] at hR;have hlen:ws.length=n:=hw.1.symm;have uC:=zH SE;have HR:=zH hr;have HE:=zH he;have HW:=zH hw;have HT:=zH hT;have aQ:=zH S1;have Jj:=zH hE;have pR:=zH hlen;have nK:=zH ai;clear SE hr he hw hT S1 hE hlen;by_cases h0:E=0
 ·subst h0;rw[if_neg zP] at hR;have jV:((0:Int) !=0)=false:=(by decide);have ER:decide ((0:Int)≠0)=false:=(by decide);rw[pR.out] at hR;by_cases adU:300<n
  ·rw[if_pos adU] at hR;have gJ:decide ((300:Int)<(n:Int))=true:=(by simp;omega);subst hR;go_enter Tryz.func23,Tryz.ntmps23
   go_wp2_with (go_at_call 13;refine uC.out.mono ?_;rintro e w2 ⟨rfl,ag⟩)
   refine bodyPost_ret (v:=.tuple #[.bool false,.int .i64 0,.int .i64 3]) (by simp[results,Tryz.results23,go_sem]) rfl ?_;exact⟨rfl,nK.out.seq ag⟩
  rw[if_neg adU] at hR;have gJ:decide ((300:Int)<(n:Int))=false:=(by simp;omega);obtain⟨bv,jS⟩:=zF (ws.any oZ);rw[jS] at hR;have adV:Hid (∀W,Bw w W->Rt 48 #[.slice A n c] W (.bool (!bv))):=zH λW hb=>(by rw[<-jS];exact KZ ws A n c W _ (HW.out.below hb) hn);cases bv
  ·rw[if_neg zP] at hR;have fQ:=MH Jj.out;have uw:=FW Jj.out;obtain⟨m,hm⟩:=zF (eU elems p);rw[hm] at hR fQ uw;have jr:=zH fQ;have wu:=zH uw;have HM:=zH hm;obtain⟨lv,vX⟩:=zF (aao m);rw[vX] at hR;have Ee:=zH vX;have qG:=zH hR;clear fQ uw hm jS vX hR;go_enter Tryz.func23,Tryz.ntmps23
   go_wp2_with (first
    | (go_at_call 13;refine uC.out.mono ?_
       rintro e w2 ⟨rfl,ag⟩;have mX:Bw w w2:=nK.out.seq ag;have zA:=zH mX;have uS:w1.heap.size<=w2.heap.size:=ag.size;clear q0;have gY:=zH (ae aQ.out ag)
       clear ag mX)
    | (go_at_call 48;refine (adV.out _ zA.out).mono ?_
       rintro e w3 ⟨rfl,az⟩;have Ep:Bw w w3:=zA.out.seq az;have anO:=zH Ep;have su:w2.heap.size<=w3.heap.size:=az.size;have q0:=aj (ae gY.out az);have KL:=FP p elems _ w3 eA en ec (HR.out.keep λq hq=>⟨zO,Ep.block q hq⟩) (HE.out.keep λq hq=>⟨zO,Ep.block q hq⟩) jR Jj.out;rw[HM.out] at KL;have HBU:=zH KL
       clear az Ep KL)
    | (go_at_call 57;refine HBU.out.mono ?_
       rintro e w4 ⟨bm,rfl,Ea,aX,yP⟩;have wU:Bw w w4:=anO.out.seq aX;have IX:w3.heap.size<=w4.heap.size:=aX.size;have DK:=VQ m w4.heap.size bm w4 Ea jr.out (zR _) wu.out (HT.out.below wU);have HLI:=zH DK;have GZ:=zH Ea;have ah7:=zH wU
       clear Ea aX wU DK)
    | (go_at_call 73;refine HLI.out.mono ?_
       rintro e w5 ⟨g,rfl,Jq,Pg,bg⟩;have IY:w4.heap.size<=w5.heap.size:=bg.size;obtain⟨w6,hw6,S6,hs6,dQ⟩:=af w5 (.cells #[.int .i64 0] 3);rw[Ee.out] at Jq;have xy:=zH (Jq.keep (dQ.block g Jq.lt));have auR:=zH (bg.seq dQ);have yX:=zH S6;have HG:=zH Jq.lt
       clear Jq bg S6 dQ))
   go_loopw [12,35] (λs12 s35 W=>∃(i:Nat) (set:List Nat) (A':Option Addr) (n' c':Nat),i<=n/\s35= .int .i64 i/\s12= .slice A' n' c'/\Hid (R=((QK m lv (ws.drop i) i set).1,(QK m lv (ws.drop i) i set).2,0))/\aY W (· <W.heap.size) 1 aV set A' n'/\(∀s∈set,jv m s)/\n'<=1000000/\Bw w6 W)
    (λ_ s35 _=>n - (intOf s35).toNat)
   case atStart=>
    have ho:=sQ (n:=0) (base:=w5.heap.size) yX.out (zR _);obtain⟨A',c',ev,aI,-,-⟩:=ho.row jd zD;simp only[Value.slice.injEq] at ev;obtain⟨rfl,-,rfl⟩:=ev;exact⟨0,[0],_,_,_,zO,rfl,rfl,zH qG.out.symm,aI.Sv (λ_ h=>h.2),λs hs=>by rw[og] at hs;subst hs;exact jv.zero m,zD,Below.refl _ _⟩
   obtain⟨i,set,A',n',c',hi,rfl,rfl,VR,aI,bZ,CO,wV⟩:=hrel;have anP:w6.heap.size<=wr.heap.size:=wV.size;have aH:Bw w wr:=ah7.out.trans ((auR.out.seq wV).mono zO);have hMr:mO wr w4.heap.size bm m:=GZ.out.below (auR.out.trans (wV.mono zO));have PQ:jY wr g lv:=xy.out.keep (wV.block g (by have:=HG.out;omega));by_cases aN:i<n
   ·have jc:decide (i<n)=true:=(by simp;omega);obtain⟨b1,xU,x1,x2,HX,p0,p1,dO⟩:=(HW.out.below aH).name aN c;obtain⟨w7,JX,S7,hs7,eP⟩:=af wr (.cells #[.string x1,.string x2] 23);have d0:=dw S7;have jm:=Dv m w4.heap.size bm set A' n' c' x1 x2 w7 (hMr.below (eP.mono zO)) jr.out zO ((aI.below eP).Sv (λ_ h=>by omega)) CO (λs hs=>(bZ s hs).ok jr.out) wu.out;have wS:=ald (m:=m) (live:=lv) HX.out set;have oO:=Ir jr.out bZ (x1,x2);have jA:=Jp jr.out bZ (x1,x2);obtain⟨nx,xw⟩:=zF (lZ m set (x1,x2));rw[xw] at jm wS oO jA;obtain⟨bk,jB⟩:=zF (EX nx lv);rw[jB] at wS;have pO:=zH jm;have XZ:=zH wS;have Po:=zH oO;have HBL:=zH jA;have Z5:=zH jB;have PG:=zH hMr;have adX:=zH PQ;have nG:=zH aH;have ah8:=zH (wV.seq eP);have oQ:=zH eP;have HGL:=zH PQ.lt;clear jm wS oO jA jB hMr PQ aH eP wV aI bZ xw S7;cases bk
    ·go_wp2_with (first
      | (go_at_call 63;refine pO.out.mono ?_
         rintro e w8 ⟨v8,rfl,MJ,eX⟩;obtain⟨A8,c8,ev,uM,-,-⟩:=MJ.row jd zD;subst ev;obtain⟨n8,UW⟩:=zF nx.length;rw[UW] at uM ⊢;have KN:=H8 g lv nx A8 n8 c8 w8 _ uM (by have:=HBL.out;omega) (adX.out.keep ((oQ.out.seq eX).block g HGL.out));rw[Z5.out] at KN;have KO:=zH KN;have Ac:=zH (ah8.out.seq eX);have YZ:=zH ((nG.out.seq oQ.out).seq eX)
         clear KN MJ uM eX)
      | (go_at_call 74;refine KO.out.mono ?_;rintro e w9 ⟨rfl,uF⟩))
     refine bodyPost_ret (v:=.tuple #[.bool false,.int .i64 i,.int .i64 0]) (by simp[results,Tryz.results23,go_sem]) rfl ?_;refine⟨?_,YZ.out.seq uF⟩;rw[VR.out,XZ.out];rfl
    go_wp2_with (first
     | (go_at_call 63;refine pO.out.mono ?_
        rintro e w8 ⟨v8,rfl,MJ,eX⟩;obtain⟨A8,c8,ev,uM,-,-⟩:=MJ.row jd zD;subst ev;obtain⟨n8,UW⟩:=zF nx.length;rw[UW] at uM ⊢;have KN:=H8 g lv nx A8 n8 c8 w8 _ uM (by have:=HBL.out;omega) (adX.out.keep ((oQ.out.seq eX).block g HGL.out));rw[Z5.out] at KN;have KO:=zH KN;have Ac:=zH (ah8.out.seq eX);have YZ:=zH ((nG.out.seq oQ.out).seq eX);have TU:=zH uM;have HN8:=zH UW
        clear KN MJ uM eX UW)
     | (go_at_call 74;refine KO.out.mono ?_;rintro e w9 ⟨rfl,uF⟩))
    go_roundw
    case rel=>
     refine⟨i+1,nx,A8,n8,c8,zO,by go_num,rfl,zH ?_,(show aY w9 (· <w9.heap.size) 1 aV nx A8 n8 from ((TU.out.Sv (F':=(· <w8.heap.size)) (λ_ h=>h.2)).below uF).Sv (λ_ h=>by have:=uF.size;omega)),Po.out,by have:=HBL.out;have:=HN8.out;omega,Ac.out.seq uF⟩;rw[VR.out,XZ.out];rfl
    simp[intOf];omega
   obtain rfl:i=n:=(by omega);have jc:decide (i<i)=false:=(by simp);have hdr:ws.drop i=[]:=z14 (by rw[pR.out];exact zR _);rw[hdr] at VR;have auT:=Ip m w4.heap.size bm set A' n' c' wr _ hMr zO aI zO (λs hs=>((bZ s hs).ok jr.out).2);have WA:=zH auT;have nG:=zH aH;clear auT hMr PQ aI bZ wV aH
   go_wp2_with (go_at_call 59;refine WA.out.mono ?_;rintro e w9 ⟨rfl,uF⟩)
   refine bodyPost_ret (v:=.tuple #[.bool (qA m set),.int .i64 i,.int .i64 0]) (by simp[results,Tryz.results23,go_sem]) rfl ?_;refine⟨?_,nG.out.seq uF⟩;rw[VR.out];rfl
  rw[if_pos rfl] at hR;subst hR;go_enter Tryz.func23,Tryz.ntmps23
  go_wp2_with (first
   | (go_at_call 13;refine uC.out.mono ?_
      rintro e w2 ⟨rfl,ag⟩
      have zA:=zH (nK.out.seq ag))
   | (go_at_call 48;refine (adV.out _ zA.out).mono ?_;rintro e w3 ⟨rfl,az⟩))
  refine bodyPost_ret (v:=.tuple #[.bool false,.int .i64 0,.int .i64 2]) (by simp[results,Tryz.results23,go_sem]) rfl ?_;exact⟨rfl,zA.out.seq az⟩
 rw[if_pos h0] at hR;have jV:(E !=0)=true:=(by simpa using h0);have ER:decide (E≠0)=true:=(by simpa using h0);subst hR;go_enter Tryz.func23,Tryz.ntmps23
 go_wp2_with (go_at_call 13;refine uC.out.mono ?_;rintro e w2 ⟨rfl,ag⟩)
 refine bodyPost_ret (v:=.tuple #[.bool false,.int .i64 0,.int .i64 E]) (by simp[results,Tryz.results23,go_sem]) rfl ?_;exact⟨rfl,nK.out.seq ag⟩
end Go.Proofs.YtgmnnegfndpakaaGreatDoor
namespace Go.Proofs.YtgmnnegfndpakaaGreatDoor
open Go Go.RowKit
structure auU (ma mb:eQ) (K:Nat) (i:Nat) (t:mW):Prop where
 a:∀s∈t.a,jv ma s
 b:∀s∈t.b,jv mb s
 la:t.a.length<=4297
 lb:t.b.length<=4297
 from_:t.from_= -1\/∃f:Nat,t.from_=f/\f<i
 letter:t.letter<=K
def Ic(ma mb:eQ)(K:Nat)(ts:List mW):Prop:=∀i t,ts[i]?=some t->auU ma mb K i t
theorem Ic.start(ma mb:eQ)(K:Nat):Ic ma mb K [⟨[0],[0],-1,0⟩]:=λi t h=>by
 cases i with
 | zero=>
   obtain rfl:=zI h;exact⟨λs hs=>by rw[og] at hs;subst hs;exact jv.zero ma,λs hs=>by rw[og] at hs;subst hs;exact jv.zero mb,zP,zP,.inl rfl,Nat.zero_le _⟩
 | succ i=>simp at h
theorem Ic.snoc{ma mb:eQ}{K:Nat}{ts:List mW}(h:Ic ma mb K ts){t:mW}(ht:auU ma mb K ts.length t):Ic ma mb K (ts++[t]):=λi u hu=>by
 rw[List.getElem?_append] at hu
 split at hu
 ·exact h i u hu
 next hi=>
 have e:i - ts.length=0:=by
  have:=(z4.1 hu).1;simp at this;omega
 rw[e] at hu;obtain rfl:t=u:=(by simpa using hu);have ei:i=ts.length:=(by omega);rw[ei];exact ht
theorem jv.agL{m:eQ}(fQ:mQ m){l:List Nat}(h:∀s∈l,jv m s):∀s∈l,s<65536:=λs hs=>by have:=(h s hs).lt;have:=EO fQ;omega
theorem aaJ{ba bb:Nat->List Nat}{k:Nat}{ts:List mW}(c:Nat):(List.range (c+1)).foldl (nH ba bb k) ts=nH ba bb k ((List.range c).foldl (nH ba bb k) ts) c:=by
 rw[List.range_succ,List.foldl_append];rfl
theorem ale{ba bb:Nat->List Nat}{k:Nat}{l:List mW}{c:Nat}(h:(decide (0<(bb c).length)&&!uZ (ba c) (bb c) l)=false):nH ba bb k l c=l:=by
 unfold nH;rw[if_neg];rintro⟨h1,h2⟩;rw[h2] at h;have:0<(bb c).length:=List.length_pos_iff.2 h1;simp[this] at h
theorem ah9{ba bb:Nat->List Nat}{k:Nat}{l:List mW}{c:Nat}(h:(decide (0<(bb c).length)&&!uZ (ba c) (bb c) l)=true):nH ba bb k l c=l++[⟨ba c,bb c,k,c⟩]:=by
 unfold nH;rw[z7,z18,Bool.not_eq_true'] at h;rw[if_pos ⟨List.ne_nil_of_length_pos h.1,h.2⟩]
theorem aia(ba bb:Nat->List Nat)(k:Nat)(l:List mW)(c:Nat):l.length<=(nH ba bb k l c).length/\(nH ba bb k l c).length<=l.length+1:=by
 unfold nH
 split
 ·rw[z5];simp
 exact⟨zR _,Nat.le_succ _⟩
theorem X5(ba bb:Nat->List Nat)(k:Nat)(l:List mW):∀c,l.length<=((List.range c).foldl (nH ba bb k) l).length/\((List.range c).foldl (nH ba bb k) l).length<=l.length+c
 | 0=>⟨zR _,zR _⟩
 | c+1=>by
   rw[aaJ];have h1:=X5 ba bb k l c;have h2:=aia ba bb k ((List.range c).foldl (nH ba bb k) l) c;omega
theorem aib{ba bb:List Nat->Nat->List Nat}{ea eb:List Nat->Bool}{st:Nat->Nm}{K f k:Nat}{l:List mW}(h:l.length<=k):inLoop ba bb ea eb st K f k l=(true,[],0):=by
 cases f with
 | zero=>rfl
 | succ f=>rw[inLoop,z22.2 h]
theorem afo{ba bb:List Nat->Nat->List Nat}{ea eb:List Nat->Bool}{st:Nat->Nm}{K f k:Nat}{l:List mW}{x:mW}(h:l[k]?=some x):inLoop ba bb ea eb st K (f+1) k l=if eb x.b&&!ea x.a then (false,yG l st (k+1) k,0)
 else if 20000<((List.range K).foldl (nH (ba x.a) (bb x.b) k) l).length then (false,[],3)
 else inLoop ba bb ea eb st K f (k+1) ((List.range K).foldl (nH (ba x.a) (bb x.b) k) l):=by
 rw[inLoop,h]
theorem alf{l:List mW}{st:Nat->Nm}{f i:Nat}{t:mW}(h:l[i]?=some t)(hf:t.from_<0):yG l st f i=[]:=by
 cases f with
 | zero=>rfl
 | succ f=>rw[yG,Int.toNat_natCast,h];exact if_pos hf
theorem alg{l:List mW}{st:Nat->Nm}{f i:Nat}{t:mW}(h:l[i]?=some t){j:Nat}(hf:t.from_=j):yG l st (f+1) i=yG l st f j++[st t.letter]:=by
 rw[yG,Int.toNat_natCast,h];show (if t.from_<0 then [] else yG l st f t.from_++[st t.letter])=_;rw[if_neg zO,hf]
theorem Ei.read{W:World}{base:Nat}{ns:List Jm}{v:Value}{ts:List mW}(h:Ei W base ns v ts){i:Nat}{t:mW}(ht:ts[i]?=some t):
 ∃b off c A1 c1 A2 c2,v= .slice (some ⟨b,off,none⟩) ts.length c/\W.cell? ⟨b,off+i*4,none⟩=some (.slice A1 t.a.length c1)/\W.cell? ⟨b,off+i*4+1,none⟩=some (.slice A2 t.b.length c2)/\W.cell? ⟨b,off+i*4+2,none⟩=some (.int .i64 t.from_)/\W.cell? ⟨b,off+i*4+3,none⟩=some (.int .i64 (t.letter:Int))/\
  (∀V,(Instr.indexAt 97 (.slice (some ⟨b,off,none⟩) ts.length c) (.int .i64 (i:Int))).run Tryz.prog V= .ok (.pointer (some ⟨b,off+i*4,none⟩)) V)/\
  ax W base 3 1 aV t.a (.slice A1 t.a.length c1)/\ax W base 3 1 aV t.b (.slice A2 t.b.length c2):=by
 obtain⟨A,c,ev,aI,-,-⟩:=h.own.row arI zD;have hi:i<ts.length:=(z4.1 ht).1;rw[h.len] at ev aI;obtain⟨b,off,x,rfl,hx,hc⟩:=aI.at_ hi;obtain⟨ha,hb,hf,hl⟩:=h.row i x t hx ht;obtain⟨A1,c1,e1⟩:=ha.form;obtain⟨A2,c2,e2⟩:=hb.form;rw[e1] at ha;rw[e2] at hb;unfold Gt at hc;rw[e1,e2,hf,hl] at hc;exact⟨b,off,c,A1,c1,A2,c2,ev,hc 0 _ rfl,hc 1 _ rfl,hc 2 _ rfl,hc 3 _ rfl,dN (P:=Tryz.prog) 97 96 4 Tryz.underlying97 (λw=>by kernel_rfl) rfl _ c i hi,ha,hb⟩
theorem OE{w:World}{p:Addr}{v:Value}{k:Nat}(h:k≠p.block):(w.setCell p v).heap[k]?=w.heap[k]?:=by
 rcases Nat.lt_or_ge k p.block with aN | jT
 ·exact((Below.refl (k+1) w).setCell (p:=p) zO v).block k zO
 unfold World.setCell;simp[Array.getElem?_modify,Ne.symm h]
theorem ax.F5{W:World}{base:Nat}{l:List Nat}{A:Option Addr}{n c:Nat}(h:ax W base 3 1 aV l (.slice A n c)):n=l.length/\aY W (· <W.heap.size) 1 aV l A n:=by
 obtain⟨A',c',e,hr,-,-⟩:=h.row jd zD;obtain⟨rfl,rfl,rfl⟩:=z19 e;exact⟨rfl,hr.imp λ_ h=>h.2⟩
theorem ax.SH{W:World}{base g:Nat}{l:List Nat}{v:Value}(h:ax W base 3 1 aV l v){cs:Array Value}{t:TypeId}{fr:Nat×Nat}(hg:W.heap[g]?=some (.cells cs t fr))(ht:3≠t)(v0 v1 v2 v3:Value):ax ((((W.setCell ⟨g,0,none⟩ v0).setCell ⟨g,1,none⟩ v1).setCell ⟨g,2,none⟩ v2).setCell ⟨g,3,none⟩ v3) base 3 1 aV l v:=
 h.bu λq hq=>by
  obtain⟨cs',hc⟩:=h.bC hq;have dD:q≠g:=iP hc hg ht;rw[OE dD,OE dD,OE dD,OE dD]
theorem arJ{w:World}{base g:Nat}{n:Jm}(h:w.heap[g]?=some (.cells #[n.a.v,n.b.v,.int .i64 n.from_,.int .i64 n.letter] 96))(hb:base<=g):ax w base 96 4 Gt [n] (.slice (some ⟨g,0,none⟩) 1 1):=
 ⟨rfl,.inr ⟨g,1,_,rfl,hb,h,zR _,by unfold maxLen;omega,rfl,rfl⟩⟩
theorem Ei.start{w:World}{g base:Nat}(hg:base<=g)(hA:w.heap[g]?=some (.cells #[.int .i64 0] 3))(hB:w.heap[g+1]?=some (.cells #[.int .i64 0] 3))(hC:w.heap[g+1+1]?=some (.cells #[.slice (some ⟨g,0,none⟩) 1 1,.slice (some ⟨g+1,0,none⟩) 1 1,.int .i64 (-1),.int .i64 0] 96)):
 Ei w base [⟨⟨some ⟨g,0,none⟩,1,1⟩,⟨some ⟨g+1,0,none⟩,1,1⟩,-1,0⟩] (.slice (some ⟨g+1+1,0,none⟩) 1 1) [⟨[0],[0],-1,0⟩]:=by
 refine⟨arJ hC zO,rfl,λi n t hn ht=>?_⟩
 cases i with
 | zero=>
   obtain rfl:=zI hn;obtain rfl:=zI ht;exact⟨sQ (n:=0) hA hg,sQ (n:=0) hB zO,rfl,rfl⟩
 | succ i=>simp at hn
structure LpI (base g gx:Nat) (x:mW) (A1:Option Addr) (c1:Nat) (A2:Option Addr) (c2:Nat) (W:World) (ns:List Jm) (v:Value) (ts:List mW):Prop where
 nd:Ei W base ns v ts
 kp:Ak W g ts
 xa:ax W base 3 1 aV x.a (.slice A1 x.a.length c1)
 xb:ax W base 3 1 aV x.b (.slice A2 x.b.length c2)
 blk:W.heap[gx]?=some (.cells #[.slice A1 x.a.length c1,.slice A2 x.b.length c2,.int .i64 x.from_,.int .i64 (x.letter:Int)] 96)
 ne:∀k,v.ownBlock=some k->k≠gx
section
variable {base g gx:Nat} {x:mW} {A1:Option Addr} {c1:Nat} {A2:Option Addr} {c2:Nat} {W:World} {ns:List Jm} {v:Value} {ts:List mW}
theorem LpI.below{W':World}(h:LpI base g gx x A1 c1 A2 c2 W ns v ts)(hb:Bw W W'):LpI base g gx x A1 c1 A2 c2 W' ns v ts:=
 ⟨h.nd.below hb,h.kp.keep (hb.block g h.kp.lt),h.xa.keep hb,h.xb.keep hb,ae h.blk hb,h.ne⟩
theorem LpI.add(h:LpI base g gx x A1 c1 A2 c2 W ns v ts){t:mW}{n:Jm}(hta:∀s∈t.a,s<65536)(htb:∀s∈t.b,s<65536){L:List ((ByteArray×ByteArray)×Bool)}(hM:gQ W g FY bV L)
 (hL:∀a b:List Nat,(∀s∈a,s<65536)->(∀s∈b,s<65536)->dP Ai (fH a,fH b) L=if uZ a b ts=true then some true else none) {W1:World} (g1:gQ W1 g FY bV (jh Ai (fH t.a,fH t.b) true L)) (g2:∀b,b≠g->W1.heap[b]?=W.heap[b]?)
 {W2:World} (ag:Bw W1 W2) (ha:ax W base 3 1 aV t.a n.a.v) (hb:ax W base 3 1 aV t.b n.b.v) (hf:n.from_=t.from_) (hl:n.letter=(t.letter:Int)) {W3:World} {v':Value} (ho:ax W3 base 96 4 Gt (ns++[n]) v') (hg:W2.grownBy W3 v.ownBlock)
 (jA:v'.ownBlock=v.ownBlock\/v'.ownBlock=some W2.heap.size):LpI base g gx x A1 c1 A2 c2 W3 (ns++[n]) v' (ts++[t]):=by
 have BB:∀{q:Nat} {cs:Array Value} {ty:TypeId} {fr:Nat×Nat},W.heap[q]?=some (.cells cs ty fr)->q≠g:=λ{q cs ty fr} hc e=>by
  have h2:W.heap[g]?=some (Ag FY bV L):=hM;rw[e,h2] at hc;cases hc
 have k1:∀{e:TypeId} {α:Type} {cells:α->List Value} {sz:Nat} {l:List α} {u:Value},ax W base e sz cells l u->ax W1 base e sz cells l u:=λ{e α cells sz l u} hu=>hu.bu λq hq=>by
  obtain⟨cs,hc⟩:=hu.bC hq;exact g2 q (BB hc)
 have RN:Ei W1 base ns v ts:=h.nd.keep λq cs ty _ hc=>g2 q (BB hc);have RP:=RN.below ag;have nd3:=RP.add ((k1 ha).keep ag) ((k1 hb).keep ag) hf hl ho hg
 have k3:∀{l:List Nat} {u:Value},ax W2 base 3 1 aV l u->ax W3 base 3 1 aV l u:=λ{l u} hu=>hu.bu λq hq=>hg.block q (hu.block_lt hq).2 λe=>by
  obtain⟨cs,hc⟩:=hu.bC hq;obtain⟨cs',yu⟩:=RP.own.bC e.symm;exact iP hc yu zD rfl
 have Cb:W2.heap[gx]?=some (.cells #[.slice A1 x.a.length c1,.slice A2 x.b.length c2,.int .i64 x.from_,.int .i64 (x.letter:Int)] 96):=ae ((g2 gx (BB h.blk)).trans h.blk) ag;refine⟨nd3,⟨_,g1.keep ?_,aaG hL hta htb⟩,k3 ((k1 h.xa).keep ag),k3 ((k1 h.xb).keep ag),?_,λk hk=>?_⟩
 ·rw[hg.block g (Nat.lt_of_lt_of_le g1.lt ag.size) (λe=>?_),ag.block g g1.lt];obtain⟨cs',yu⟩:=RN.own.bC e.symm;have h2:W1.heap[g]?=some (Ag FY bV _):=g1;rw[h2] at yu;cases yu
 ·rw[hg.block gx (aC Cb) (λe=>h.ne gx e.symm rfl)];exact Cb
 rcases jA with e | e
 ·exact h.ne k (e.symm.trans hk)
 rw[e] at hk;obtain rfl:=zI hk;have:=aC Cb;omega
end
theorem OG{w:World}{g:Nat}{t:TypeId}{u0 u1:Value}(h:w.heap[g]?=some (.cells #[u0,u1] t))(v0 v1:Value):((w.setCell ⟨g,0,none⟩ v0).setCell ⟨g,1,none⟩ v1).heap[g]?=some (.cells #[v0,v1] t):=by
 have h1:=dM (i:=1) (v:=v1) (dM (i:=0) (v:=v0) h);simpa using h1
theorem Ie{B:Nat}{w0 w:World}{g:Nat}(h:Below B w0 w)(hg:B<=g)(v0 v1:Value):Below B w0 ((w.setCell ⟨g,0,none⟩ v0).setCell ⟨g,1,none⟩ v1):=
 (h.setCell (p:=⟨g,0,none⟩) hg v0).setCell (p:=⟨g,1,none⟩) hg v1
end Go.Proofs.YtgmnnegfndpakaaGreatDoor
