import Derived.Test.YtgmnnegfndpakaaGreatDoorH35
set_option maxHeartbeats 20000000
set_option maxRecDepth 100000
namespace Go.Proofs.YtgmnnegfndpakaaGreatDoor
open Go Go.RowKit
def aeU{α:Type}(lt:α->α->Bool)(l:List α)(i:Nat):Prop:=∀(j:Nat) (x y:α),j+1<i->l[j]?=some x->l[j+1]?=some y->lt x y=true
theorem alj{α:Type}(lt:α->α->Bool)(l:List α):aeU lt l 0:=λj _ _ h=>by omega
theorem aqS{α:Type}(lt:α->α->Bool)(l:List α):aeU lt l 1:=λj _ _ h=>by omega
theorem aeU.next{α:Type}{lt:α->α->Bool}{l:List α}{i:Nat}(h:aeU lt l i){x y:α}(hx:l[i - 1]?=some x)(hy:l[i]?=some y)(hi:0<i)(hl:lt x y=true):aeU lt l (i+1):=λj a b hj ha hb=>by
 by_cases e:j+1<i
 ·exact h j a b e ha hb
 have e1:j=i - 1:=(by omega);subst e1;rw[show i - 1+1=i by omega] at hb;rw[hx] at ha;rw[hy] at hb;rw[<-zI ha,<-zI hb];exact hl
theorem agJ{α:Type}{lt:α->α->Bool}:∀{l:List α},acG lt l=true↔∀(j:Nat) (x y:α),l[j]?=some x->l[j+1]?=some y->lt x y=true
 | []=>⟨λ_ j x y h=>by simp at h,λ_=>rfl⟩
 | [z]=>⟨λ_ j x y _ h=>by simp at h,λ_=>rfl⟩
 | x::y::l=>by
   rw[acG,z7,agJ];constructor
   ·rintro⟨h1,h2⟩ j a b ha hb
    cases j with
    | zero=>
      obtain rfl:x=a:=(by simpa using ha);obtain rfl:y=b:=(by simpa using hb);exact h1
    | succ j=>exact h2 j a b (by simpa using ha) (by simpa using hb)
   intro h;exact⟨h 0 x y rfl rfl,λj a b ha hb=>h (j+1) a b (by simpa using ha) (by simpa using hb)⟩
theorem aeU.asc{α:Type}{lt:α->α->Bool}{l:List α}{i:Nat}(h:aeU lt l i)(hl:l.length<=i):acG lt l=true:=agJ.2 λj x y hx hy=>h j x y (by have:=(z4.1 hy).1;omega) hx hy
theorem atW{α:Type}{lt:α->α->Bool}{l:List α}{i:Nat}{x y:α}(hx:l[i - 1]?=some x)(hy:l[i]?=some y)(hi:0<i)(hl:lt x y=false):acG lt l=false:=by
 cases h:acG lt l with
 | false=>rfl
 | true=>
   have:=agJ.1 h (i - 1) x y hx (by rw[show i - 1+1=i by omega];exact hy);rw[hl] at this;cases this
theorem ajI{α:Type}{eq:α->α->Bool}{x:α}:∀{l:List α} {i k:Nat},aaP eq x l i=some k->∃y j,k=i+j/\l[j]?=some y/\eq y x=true
 | [],i,k,h=>by rw[aaP] at h;cases h
 | y::l,i,k,h=>by
   rw[aaP] at h
   split at h
   ·rename_i he;obtain rfl:=zI h;exact⟨y,0,rfl,rfl,he⟩
   obtain⟨z,j,h1,h2,h3⟩:=ajI h;exact⟨z,j+1,zO,h2,h3⟩
def toI:Option Nat->Int
 | some k=>(k:Int)
 | none=>-1
theorem aqT(s:ByteArray):∀(l:List ByteArray) (i:Nat),kE (λx=>eqS s x) l i=toI (aaP eqS s l i)
 | [],_=>rfl
 | x::l,i=>by
   rw[kE,aaP,NL x s];cases eqS s x
   ·exact aqT s l (i+1)
   rfl
theorem atX(a b:ByteArray):∀(l:List Nm) (i:Nat),ixN l a b i=toI (aaP eqN (a,b) l i)
 | [],_=>rfl
 | x::l,i=>by
   have e:eqN x (a,b)=(eqS a x.1&&eqS b x.2):=(by unfold eqN;rw[NL x.1 a,NL x.2 b]);rw[ixN,aaP,e];cases eqS a x.1&&eqS b x.2
   ·exact atX a b l (i+1)
   rfl
theorem aMP{o:Option Nat}(h:o=none):toI o= -1:=by rw[h];rfl
end Go.Proofs.YtgmnnegfndpakaaGreatDoor
namespace Go.Proofs.YtgmnnegfndpakaaGreatDoor
open Go.RowKit
theorem afy{w:World}{g:Nat}{t:TypeId}{fr:Nat×Nat}{v0 v1 v2 v3:Value}(h:w.heap[g]?=some (.cells #[v0,v1,v2,v3] t fr)):w.cell? ⟨g,0,none⟩=some v0/\w.cell? ⟨g,1,none⟩=some v1/\w.cell? ⟨g,2,none⟩=some v2/\w.cell? ⟨g,3,none⟩=some v3:=by
 refine⟨?_,?_,?_,?_⟩<;>rw[cell_of_row w g _ _ _ _ h]<;>rfl
theorem auI{w:World}{g:Nat}{t:TypeId}{fr:Nat×Nat}{a b:ByteArray}(h:w.heap[g]?=some (.cells #[.string a,.string b] t fr)):aY w (λ_=>True) 2 dK [(a,b)] (some ⟨g,0,none⟩) 1:=by
 refine⟨rfl,λ_=>⟨g,0,rfl,trivial,λi x hx j v hv=>?_⟩⟩
 cases i with
 | zero=>
   obtain rfl:(a,b)=x:=(by simpa using hx);rw[show 0+0*2+j=j by omega,cell_of_row w g _ _ _ _ h];simpa[dK] using hv
 | succ i=>simp at hx
theorem aJv(names:List Nm)(spaces:List ByteArray)(a b:ByteArray)(nA:Option Addr)(nn nc:Nat)(sA:Option Addr)(sn sc:Nat)(fA:Option Addr)(fn fc:Nat)(tA:Option Addr)(tn tc:Nat)(w:World)(hN:aY w (· <w.heap.size) 2 dK names nA nn)(hS:aY w (· <w.heap.size) 1 mG spaces sA sn)(JC:nn<1000000)(Di:sn<1000000):
 Rt 28 #[.agg #[.slice nA nn nc,.slice sA sn sc,.slice fA fn fc,.slice tA tn tc],.agg #[.string a,.string b]] w (.tuple #[.int .i64 (adu names spaces (a,b)).1,.int .i64 (adu names spaces (a,b)).2]):=by
 obtain⟨R,hR⟩:=zF (adu names spaces (a,b));rw[hR];unfold adu at hR;obtain⟨w1,bI,S1,S2,nC,ai⟩:=ed w (.cells #[.slice nA nn nc,.slice sA sn sc,.slice fA fn fc,.slice tA tn tc] 51) (.cells #[.string a,.string b] 23);obtain⟨w2,mJ,S3,uS,ag⟩:=af w1 (.cells #[.string a,.string b] 23);have d0:=dw S2;have HV:=zH (KZ [(a,b)] (some ⟨w1.heap.size,0,none⟩) 1 1 w2 _ (auI S3) zO);have HNA:=zH hN;have Df:=zH hS;have Lh:=zH (ai.seq ag);have aQ:=zH (ae S1 ag);have gY:=zH (ae S2 ag);clear hN hS S1 S2 S3 ag;obtain⟨bv,jS⟩:=zF (oZ (a,b));rw[jS] at hR;have aJm:[(a,b)].any oZ=bv:=(by rw[List.any_cons,jS];simp);rw[aJm] at HV;clear aJm jS;cases bv
 ·have HR:=zH hR;clear hR;go_enter Tryz.func28,Tryz.ntmps28
  go_wp2_with (go_at_call 48;refine HV.out.mono ?_
               rintro e w3 ⟨rfl,az⟩;have lX:=zH (Lh.out.seq az);have HA3:=zH (ae aQ.out az);have HN3:=zH (ae gY.out az);obtain⟨q0,q1,q2,q3⟩:=afy HA3.out
               clear az d0)
  go_loopw [17] (λs17 W=>∃i:Nat,s17= .int .i64 i/\i<=nn/\Hid (aeU jg names i)/\Bw w3 W) (λs17 _=>nn - (intOf s17).toNat)
  case atStart=>exact⟨0,rfl,zO,zH (alj _ _),Below.refl _ _⟩
  obtain⟨i,rfl,hi,HUP,dU⟩:=hrel;have hsr:w3.heap.size<=wr.heap.size:=dU.size;have aH:Bw w wr:=lX.out.seq dU;have HAR:=zH (ae HA3.out dU);have HBR:=zH dU;have nG:=zH aH;have HNR:=zH (ae HN3.out dU);clear dU aH;obtain⟨q0,q1,q2,q3⟩:=afy HAR.out;by_cases aN:i<nn
  ·have gJ:decide (i<nn)=true:=(by simp;omega);by_cases UI:i=0
   ·subst UI;have hHeld:Held (λV=>V.cell? ⟨w.heap.size,0,none⟩=some (.slice nA nn nc)) wr.drew:=q0;go_wp2_with fail;refine ah.stH hHeld 16 ?_;refine ah.ta 0 hHeld ?_;refine ah.ta 1 hHeld ?_;refine ah.tk 2 hHeld ?_;refine ah.no 3 hHeld ?_;refine ah.no 4 hHeld ?_;refine ah.no 5 hHeld ?_;refine ah.no 6 hHeld ?_;refine ah.no 7 hHeld ?_;refine ah.no 8 hHeld ?_;refine ah.no 9 hHeld ?_;refine ah.no 10 hHeld ?_;refine ah.no 11 hHeld ?_;refine ah.no 12 hHeld ?_;refine ah.no 13 hHeld ?_;refine ah.no 14 hHeld ?_;refine ah.no 15 hHeld ?_;refine ah.oe 16 ?_;clear hHeld;refine ah.dn ?_;go_wp2_with fail;go_roundw
    case rel=>exact⟨0+1,by go_num,zO,zH (aqS _ _),HBR.out.drew⟩
    (simp[intOf]<;>omega)
   have jc:decide (0<i)=true:=(by simp;omega);obtain⟨b1,xU,x1,x2,HX,p0,p1,dO⟩:=(HNA.out.below nG.out).name aN nc;obtain⟨b2,ahT,y1,y2,HY,r0,r1,hiy⟩:=(HNA.out.below nG.out).name (show i - 1<nn by omega) nc;have hwp:IntKind.i64.wrap ((i:Int) - 1)=(i:Int) - 1:=(by rw[IntKind.wrap_i64];omega);have hic:((i - 1:Nat):Int)=(i:Int) - 1:=(by omega);rw[hic] at hiy;have s0:=Since.cell q0;have s1:=Since.cell p0;have s2:=Since.cell p1;have s3:=Since.cell r0;have s4:=Since.cell r1;obtain⟨lt,amT⟩:=zF (jg (y1,y2) (x1,x2));have HLE:Hid (∀W,Rt 78 #[.agg #[.string y1,.string y2],.agg #[.string x1,.string x2]] W (.bool lt)):=zH λW=>(by rw[<-amT];exact az1 y1 y2 x1 x2 W);have HLT:=zH amT;clear amT;cases lt
   ·go_wp2_with fail;refine yh zK zK ?_
    repeat (quiet_step (first | (go_at_call_of 78 (Value.agg #[.string y1,.string y2]);exact Eo (HLE.out _))))
    refine wpQuiet_nil ?_;intro wq hq;have Xo:=Ap hq;clear hq;go_wp2_with fail;refine bodyPost_ret (v:=.tuple #[.int .i64 0,.int .i64 2]) (by simp[results,Tryz.results28,go_sem]) rfl ?_;have Pn:acG jg names=false:=atW HY.out HX.out zO HLT.out;refine⟨?_,nG.out.seq Xo⟩;rw[<-HR.out,if_pos (.inr (.inl Pn))]
   go_wp2_with fail;refine yh zK zK ?_
   repeat (quiet_step (first | (go_at_call_of 78 (Value.agg #[.string y1,.string y2]);exact Eo (HLE.out _))))
   refine wpQuiet_nil ?_;intro wq hq;have Xo:=Ap hq;clear hq;go_wp2_with fail;go_roundw
   case rel=>exact⟨i+1,by go_num,zO,zH (HUP.out.next HY.out HX.out zO HLT.out),HBR.out.seq Xo⟩
   (simp[intOf]<;>omega)
  obtain rfl:nn=i:=(by omega);have gJ:decide (nn<nn)=false:=(by simp);have auK:acG jg names=true:=HUP.out.asc (by rw[<-HNA.out.1];exact zR _);have HAS:=zH auK;clear auK;go_wp2_with fail
  rename World=>wo
  go_loopw [41] (λs41 W=>∃i:Nat,s41= .int .i64 i/\i<=sn/\Hid (aeU kQ spaces i)/\Bw wo W) (λs41 _=>sn - (intOf s41).toNat)
  case atStart=>exact⟨0,rfl,zO,zH (alj _ _),Below.refl _ _⟩
  obtain⟨i,rfl,hi,HUQ,dU⟩:=hrel;have hsq:wo.heap.size<=wr.heap.size:=dU.size;have aH:Bw w wr:=nG.out.seq dU;have HAQ:=zH (ae HAR.out dU);have Tz:=zH dU;have HBX:=zH aH;have HNQ:=zH (ae HNR.out dU);clear dU aH q0 q1 q2 q3;obtain⟨q0,q1,q2,q3⟩:=afy HAQ.out;by_cases aN:i<sn
  ·have sZ:decide (i<sn)=true:=(by simp;omega);by_cases UI:i=0
   ·subst UI;have hHeld:Held (λV=>V.cell? ⟨w.heap.size,1,none⟩=some (.slice sA sn sc)) wr.drew:=q1;go_wp2_with fail;refine ah.stH hHeld 15 ?_;refine ah.ta 0 hHeld ?_;refine ah.ta 1 hHeld ?_;refine ah.tk 2 hHeld ?_;refine ah.no 3 hHeld ?_;refine ah.no 4 hHeld ?_;refine ah.no 5 hHeld ?_;refine ah.no 6 hHeld ?_;refine ah.no 7 hHeld ?_;refine ah.no 8 hHeld ?_;refine ah.no 9 hHeld ?_;refine ah.no 10 hHeld ?_;refine ah.no 11 hHeld ?_;refine ah.no 12 hHeld ?_;refine ah.no 13 hHeld ?_;refine ah.no 14 hHeld ?_;refine ah.oe 15 ?_;clear hHeld;refine ah.dn ?_;go_wp2_with fail;go_roundw
    case rel=>exact⟨0+1,by go_num,zO,zH (aqS _ _),Tz.out.drew⟩
    (simp[intOf]<;>omega)
   have jc:decide (0<i)=true:=(by simp;omega);obtain⟨b1,xU,x1,HX,p0,dO⟩:=(Df.out.below HBX.out).str aN sc;obtain⟨b2,ahT,y1,HY,r0,hiy⟩:=(Df.out.below HBX.out).str (show i - 1<sn by omega) sc;have hwp:IntKind.i64.wrap ((i:Int) - 1)=(i:Int) - 1:=(by rw[IntKind.wrap_i64];omega);have hic:((i - 1:Nat):Int)=(i:Int) - 1:=(by omega);rw[hic] at hiy;have s0:=Since.cell q1;have s1:=Since.cell p0;have s3:=Since.cell r0;obtain⟨lt,amT⟩:=zF (kQ y1 x1);have nP:Op.bytesLess y1.toList x1.toList=lt:=(by rw[alD];exact amT);have HLT:=zH amT;clear amT;cases lt
   ·skip
    go_wp2_with fail;refine yh zK zK ?_
    repeat (quiet_step (first | fail))
    refine wpQuiet_nil ?_;intro wq hq;have Xo:=Ap hq;clear hq;go_wp2_with fail;refine bodyPost_ret (v:=.tuple #[.int .i64 0,.int .i64 2]) (by simp[results,Tryz.results28,go_sem]) rfl ?_;have Pn:acG kQ spaces=false:=atW HY.out HX.out zO HLT.out;refine⟨?_,HBX.out.seq Xo⟩;rw[<-HR.out,if_pos (.inr (.inr Pn))]
   skip
   go_wp2_with fail;refine yh zK zK ?_
   repeat (quiet_step (first | fail))
   refine wpQuiet_nil ?_;intro wq hq;have Xo:=Ap hq;clear hq;go_wp2_with fail;go_roundw
   case rel=>exact⟨i+1,by go_num,zO,zH (HUQ.out.next HY.out HX.out zO HLT.out),Tz.out.seq Xo⟩
   (simp[intOf]<;>omega)
  obtain rfl:sn=i:=(by omega);have sZ:decide (sn<sn)=false:=(by simp);have auK:acG kQ spaces=true:=HUQ.out.asc (by rw[<-Df.out.1];exact zR _);have hR:=HR.out;rw[if_neg (by rw[HAS.out,auK];simp)] at hR;have d0:=dw HNQ.out;have dO:=akf a b names nA nn nc wr _ (HNA.out.below HBX.out) zO;rw[atX] at dO;have hnl:(names.length:Int)=(nn:Int):=(by rw[<-HNA.out.1]);have XI:(spaces.length:Int)=(sn:Int):=(by rw[<-Df.out.1])
  cases hn:aaP eqN (a,b) names 0 with
  | some k=>
    rw[hn] at hR dO;subst hR;have Ef:decide ((0:Int)<=(k:Int))=true:=(by simp);have HIX:=zH dO;clear dO hn
    go_wp2_with (go_at_call 79;refine HIX.out.mono ?_;rintro e w5 ⟨rfl,bg⟩;unfold toI)
    refine bodyPost_ret (v:=.tuple #[.int .i64 (k:Int),.int .i64 0]) (by simp[results,Tryz.results28,go_sem]) rfl ?_;exact⟨rfl,HBX.out.seq bg⟩
  | none=>
    rw[hn] at hR dO;have HIX:=zH dO;clear dO hn;have hiy:=λW (hb:Bw wr W)=>alh a spaces sA sn sc W _ (Df.out.below (HBX.out.seq hb)) zO;have hpt:=aqT a spaces 0;rw[hpt] at hiy
    cases hs:aaP eqS a spaces 0 with
    | some k=>
      rw[hs] at hiy
      have hR':((names.length:Int)+(k:Int),(0:Int))=R:=by
       have h1:=hR;dsimp only at h1;rw[hs] at h1;exact h1
      rw[hnl] at hR';subst hR';have Ef:decide ((0:Int)<=(k:Int))=true:=(by simp)
      have yw:k<sn:=by
       obtain⟨y,j,h1,h2,-⟩:=ajI hs;have:=(z4.1 h2).1;have:=Df.out.1;omega
      have HIY:=zH hiy;clear hiy hs hR hpt
      go_wp2_with (first
       | (go_at_call 79;refine HIX.out.mono ?_;rintro e w5 ⟨rfl,bg⟩;unfold toI
          clear q0 q1 q2 q3 d0;obtain⟨q0,q1,q2,q3⟩:=afy (ae HAQ.out bg);have d0:=dw (ae HNQ.out bg)
          have BU:=zH bg)
       | (go_at_call 80;refine (HIY.out _ BU.out).mono ?_;rintro e w6 ⟨rfl,dQ⟩;unfold toI
          clear q0 q1 q2 q3 d0
          obtain⟨q0,q1,q2,q3⟩:=afy (ae (ae HAQ.out BU.out) dQ)))
      refine bodyPost_ret (v:=.tuple #[.int .i64 ((nn:Int)+(k:Int)),.int .i64 0]) (by simp[results,Tryz.results28,go_sem]) rfl ?_;exact⟨rfl,(HBX.out.seq BU.out).seq dQ⟩
    | none=>
      rw[hs] at hiy
      have hR':((names.length:Int)+(spaces.length:Int),(0:Int))=R:=by
       have h1:=hR;dsimp only at h1;rw[hs] at h1;exact h1
      rw[hnl,XI] at hR';subst hR';have HIY:=zH hiy;clear hiy hs hR hpt
      go_wp2_with (first
       | (go_at_call 79;refine HIX.out.mono ?_;rintro e w5 ⟨rfl,bg⟩;unfold toI
          clear q0 q1 q2 q3 d0;obtain⟨q0,q1,q2,q3⟩:=afy (ae HAQ.out bg);have d0:=dw (ae HNQ.out bg)
          have BU:=zH bg)
       | (go_at_call 80;refine (HIY.out _ BU.out).mono ?_;rintro e w6 ⟨rfl,dQ⟩;unfold toI
          clear q0 q1 q2 q3 d0
          obtain⟨q0,q1,q2,q3⟩:=afy (ae (ae HAQ.out BU.out) dQ)))
      refine bodyPost_ret (v:=.tuple #[.int .i64 ((nn:Int)+(sn:Int)),.int .i64 0]) (by simp[results,Tryz.results28,go_sem]) rfl ?_;exact⟨rfl,(HBX.out.seq BU.out).seq dQ⟩
 rw[if_pos (.inl rfl)] at hR;subst hR;go_enter Tryz.func28,Tryz.ntmps28
 go_wp2_with (go_at_call 48;refine HV.out.mono ?_;rintro e w3 ⟨rfl,az⟩)
 refine bodyPost_ret (v:=.tuple #[.int .i64 0,.int .i64 2]) (by simp[results,Tryz.results28,go_sem]) rfl ?_;exact⟨rfl,Lh.out.seq az⟩
end Go.Proofs.YtgmnnegfndpakaaGreatDoor
