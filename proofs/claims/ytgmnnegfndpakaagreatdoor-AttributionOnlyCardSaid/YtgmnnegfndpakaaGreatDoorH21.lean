import Derived.Test.YtgmnnegfndpakaaGreatDoorH19
import Derived.Test.YtgmnnegfndpakaaGreatDoorH14
import Derived.Lib.SlicesCompact
set_option maxHeartbeats 20000000
set_option maxRecDepth 100000
namespace Go.Proofs.YtgmnnegfndpakaaGreatDoor
open Go.RowKit Go.Proofs.Tryz
variable{seen:List Nat}{i n:Nat}{w:World}{ss:List (List UInt8)}{m:wY}{α:Type}{ns av:List Nm}{p:oI}{c:aT}{l:List α}{x:α}{lt eq:α->α->Bool}
section
open Go.Shelf Go.Sort
def zN(L:List (Nm×Bool)):List Nm:=(L.filter (·.2)).map (·.1)
def TK(L:List (Nm×Bool))(i:Nat):Option Nm:=match L[i]? with
 | some (k,true)=>some k
 | _=>none
def Oe(L:List (Nm×Bool))(seen:List Nat):List Nm:=seen.filterMap (TK L)
theorem ahH{L:List (Nm×Bool)}{k:Nm}{v:Bool}(h:L[i]?=some (k,v)):Oe L (seen++[i])=Oe L seen++(if v then [k] else []):=by
 unfold Oe;rw[List.filterMap_append]
 congr 1
 cases v<;>simp[TK,h]
theorem aff(L:List (Nm×Bool)):Oe L (List.range L.length)=zN L:=by
 unfold Oe zN
 induction L with
 | nil=>rfl
 | cons p L ih=>
   obtain⟨k,v⟩:=p
   have e:TK ((k,v)::L) ∘ Nat.succ=TK L:=by
    funext i;simp[TK]
   rw[z9,List.range_succ_eq_map,List.filterMap_cons,List.filterMap_map,e,ih];cases v<;>simp[TK]
theorem abf(h1:seen.Nodup)(h2:∀i∈seen,i<n)(h3:∀i,i<n->i∈seen):seen.Perm (List.range n):=
 (List.perm_ext_iff_of_nodup h1 List.nodup_range).2 λa=>⟨λh=>List.mem_range.2 (h2 a h),λh=>h3 a (List.mem_range.1 h)⟩
theorem acZ(h1:seen.Nodup)(h2:∀i∈seen,i<n):seen.length<=n:=by
 have:=wZ seen (List.range n) h1 (λx hx=>List.mem_range.2 (h2 x hx));simpa using this
def aks(m:oI)(w:World)(e:Ending)(w':World):Prop:=
 ∃A n c ns v2 ts mid,e= .returned (.tuple #[.slice A n c,v2])/\ns.Perm (zN m.1)/\ns.Pairwise (λx y=>jg y x=false)/\aY w' (λb=>w<=b/\b<mid) 2 dK ns A n/\n<=c/\
  ax w' mid 9 1 mG ts v2/\ts.Perm (m.2.map (·.1))/\ts.Pairwise (λx y=>kQ y x=false)/\w.heap.size<=mid/\mid<=w'.heap.size/\Bw w w'
def mkB(l:List UInt8):ByteArray:=⟨l.toArray⟩
theorem akt(ss:List (List UInt8)):(ss.map mkB).flatMap mG=ss.map encStr:=by
 induction ss with
 | nil=>rfl
 | cons x l ih=>rw[Jm,l4,ih,Jm];rfl
theorem am5{base:Nat}{v:Value}(h:w.ownsRow base 9 1 v n (ss.map encStr))(hn:n=ss.length):ax w base 9 1 mG (ss.map mkB) v:=by
 unfold ax;rw[z8,<-hn];rw[akt];exact h
theorem afg(ss:List (List UInt8)):((ss.mergeSort λx y=>decide (x<=y)).map mkB).Pairwise (λx y=>kQ y x=false):=by
 have h:=List.pairwise_mergeSort (le:=λx y:List UInt8=>decide (x<=y)) (λa b c h1 h2=>decide_eq_true (List.le_trans (of_decide_eq_true h1) (of_decide_eq_true h2))) (λa b=>by
  rcases List.le_total a b with h | h
  ·simp[h]
  simp[h]) ss
 rw[List.pairwise_map];refine h.imp λ{a b} h=>?_;have:=of_decide_eq_true h;unfold kQ mkB;simpa using this
theorem aku{L:List (ByteArray×Bool)}(h:ss.Perm (L.map λp=>p.1.data.toList)):((ss.mergeSort λx y=>decide (x<=y)).map mkB).Perm (L.map (·.1)):=by
 have h1:=((List.mergeSort_perm ss λx y=>decide (x<=y)).trans h).map mkB;rw[List.map_map] at h1;exact h1
def leftOf(bi n:Nat)(w:World):Nat:=match w.heap[bi]? with
 | some (.mapIter _ _ seen _)=>n - seen.size
 | _=>0
theorem Kr{bi m a b:Nat}{seen:Array Nat}(h:w.heap[bi]?=some (.mapIter (some m) a seen b)):leftOf bi n w=n - seen.size:=by unfold leftOf;rw[h]
theorem akv(g1 g2:Nat)(m:oI)(w:World)(hM:iI w g1 g2 m)(yB:m.1.length<1000000)(qY:m.2.length<1000000)(uS:∀p∈m.2,p.1.size<=1000000)(dm:pY m.2):
 Cl 237 #[.agg #[.map (some g1),.map (some g2)]] w (aks m w):=by
 obtain⟨w1,bI,S1,lY,ai⟩:=af w (Zc #[.map (some g1),.map (some g2)] 248);have iY:=hM.1.below ai;have lV:=hM.1.lt;obtain⟨w2,mJ,S2,oW,ag⟩:=af w1 (.mapIter (some g1) m.1.length #[] m.1.length);have hrg:(Instr.range 246 (.map (some g1))).run prog w1= .ok (w1,0) w2:=(by rw[<-mJ];exact run_range_map (kt:=23) (et:=4) zK iY);obtain⟨a0,aQ,gY,yY,uy⟩:=zK5 (dw S1) (zH (ae S1 ag)) (zH S2) (zH (iY.below ag)) (zH ((hM.2.below ai).below ag));have hgb:g1≠w1:=zO;have xC:Hid (g2<w):=zH hM.2.lt;have HW2:=zH mJ;clear S1 S2 hM iY mJ;go_enter func237,ntmps237;go_wp2_with fail;have Xz:=zH bI;clear bI hrg a0
 go_loopw [4] (λs4 wr=>∃(seen:Array Nat) (l:List Nm),wr.heap[w1.heap.size]?=some (.mapIter (some g1) m.1.length seen m.1.length)/\ax wr w2 23 2 dK l s4/\Hid (l=Oe m.1 seen.toList)/\Hid (seen.toList.Nodup/\∀i∈seen.toList,i<m.1.length)/\Kept (λk=>k=w1\/w2<=k) w2 wr)
  (λ_ wr=>leftOf w1 m.1.length wr)
 case atStart=>exact⟨#[],[],gY,ax.nil _ _ _ _ _,zH rfl,zH ⟨zP,zP⟩,Kept.refl _ _⟩
 obtain⟨seen,l,hit,vP,HL,HN,eF⟩:=hrel;obtain⟨hmr,Bz,HIT,HOV⟩:=zK4 (yY.keep (eF.block g1 yY.lt zO)) eF.size (zH hit) (zH vP);have PG:=zH hmr;have pW:=zH eF;have HLB:=zH (acZ HN.1 HN.2);by_cases hu:∃i,i<m.1.length/\i ∉ seen
 ·obtain⟨i,k,v,d,hL,Jh,bG⟩:=aba (P:=prog) hmr hit hu 0;obtain⟨w3,vU⟩:∃w3,{ wr.drewN d with heap:=wr.heap.setIfInBounds w1 (.mapIter (some g1) m.1.length (seen.push i) m.1.length) }=w3:=⟨_,rfl⟩;rw[vU] at bG;have aBK:w1.heap.size<wr:=zO
  have h3k:Kept (λk=>k=w1) wr w3:=by
   rw[<-vU];exact⟨rfl,rfl,rfl,zP,λb _ hb=>by simp[Ne.symm hb]⟩
  have h3i:w3.heap[w1.heap.size]?=some (.mapIter (some g1) m.1.length (seen.push i) m.1.length):=(by rw[<-vU];simp[aBK]);have XA:=PG.keep (h3k.block g1 PG.lt hgb);have ath:=akn (P:=prog) XA h3i hL;obtain⟨a,b⟩:=k;have aHo:(Instr.entry (w1,0)).run prog w3= .ok (.tuple #[.agg #[a,b],v]) w3:=ath;have aHp:(Instr.next (w1,0) false 0).run prog wr= .ok (.tuple #[true,.agg #[a,b],v]) w3:=bG;obtain⟨w4,vV,S4,NU,aX⟩:=af w3 (Zc #[a,b] 23);have r0:=dw S4;have ati:Kept (λk=>k=w1\/w2<=k) w2 w3:=pW.trans ⟨h3k.os,h3k.tape,h3k.output,h3k.size,λb hb hn=>h3k.block b hb (λe=>hn (.inl e))⟩;have atj:=ati.trans (Qh aX);have su:wr.heap.size<=w3:=h3k.size;have atl:=ae h3i aX
  have atm:ax w3 w2 23 2 dK l u4:=HOV.grown λk hk e=>h3k.block k hk (by
   intro e2;obtain⟨h1,_⟩:=aS HOV k e
   omega)
  have atn:=zH (atm.keep aX);obtain⟨am6,HK4⟩:=zJ2 atl atj
  have JA:Hid (∀u,v=u->Oe m.1 (seen.push i).toList=l++(if u then [(a,b)] else [])):=zH (by
   intro u e;subst e
   rw[Array.toList_push,ahH hL,<-HL.out])
  have um:Hid ((seen.push i).toList.Nodup/\∀j∈(seen.push i).toList,j<m.1.length):=zH (by
   rw[Array.toList_push];refine⟨List.nodup_append.2 ⟨HN.1,zP,?_⟩,?_⟩
   ·intro x hx y hy e;have QO:y=i:=(by simpa using hy);rw[e,QO] at hx;exact Jh (by simpa using hx)
   intro j hj
   rcases z12.1 hj with h | h
   ·exact HN.2 j h
   have:j=i:=(by simpa using h)
   rw[this];exact(z4.1 hL).1)
  have HLE:Hid (l.length<=m.1.length):=zH (by
   rw[HL.out]
   exact zT (List.length_filterMap_le _ _) HLB)
  have HLT:Hid (seen.size<m.1.length):=zH (by
   have:=acZ um.1 um.2;rw[Array.toList_push,z5,TQ] at this
   exact this)
  clear bG ath vU hL Jh hit vP hmr eF h3k h3i XA S4 ati atj atl atm hu;cases v
  ·go_wp2_with fail;go_roundw
   case rel=>exact⟨seen.push i,l,am6,atn,zH (by rw[JA false rfl];simp),um,HK4⟩
   rw[Kr am6,Kr HIT,Array.size_push];have:=HLT.out;omega
  obtain⟨w5,pq,S5,VC,bg⟩:=af w4 (Zc #[a,b] 23);have aBL:=zH (atn.keep bg);have ato:=Src.block (sz:=2) (m:=1) (vs:=[(a,b)].flatMap dK) S5 rfl;have am7:=zH ato;have atp:=zH (ae am6 bg);have Rk:=zH (HK4.trans (Qh bg));clear S5 ato
  go_wp2_with (first
   | (at_builtin;refine Am rfl (.tmp 16) (.tmp 18) 37 rfl tyN ajf w2 _ [(a,b)] _ rfl aBL _ 1 1 rfl am7 rfl (by have:=HLE.out;omega) zO ?_
      intro v6 w6 ho6 dQ)
   | fail)
  go_roundw
  case rel=>exact⟨seen.push i,l++[(a,b)],by rw[dQ.block _ zO];exact atp,ho6,zH (by rw[JA true rfl];simp),um,Rk.trans ⟨dQ.os,dQ.tape,dQ.output,dQ.size,λk _ hn=>dQ.block k (Nat.lt_of_not_le (λh=>hn (.inr h)))⟩⟩
  rw[Kr (show w6.heap[w1.heap.size]?=_ by rw[dQ.block _ zO];exact atp),Kr HIT,Array.size_push];have:=HLT.out;omega
 have dW:∀i,i<m.1.length->i∈seen:=λi hi=>by
  rcases Classical.em (i∈seen) with h | h
  ·exact h
  exact absurd ⟨i,hi,h⟩ hu
 have bG:=abb (P:=prog) hmr hit dW 0
 have RJ:l.Perm (zN m.1):=by
  rw[HL.out,<-aff];exact(abf HN.1 HN.2 (λi hi=>by simpa using dW i hi)).filterMap _
 have HPM:=zH RJ
 have hll:l.length<4000000:=by
  have h1:=RJ.length_eq;have h2:(zN m.1).length<=m.1.length:=(by unfold zN;rw[z8];exact List.length_filter_le _ _);omega
 have aBM:=zH (uy.keep (eF.block g2 uy.lt (by have:=xC.out;omega)));have aBN:=zH (bF aQ eF zO);clear RJ dW hu vP hmr hit eF;go_wp2_with fail;refine (akr w2 l u4 wr HOV Bz hll).mono ?_;rintro e w3 ⟨rfl,⟨A,c,ns,rfl,hp,zo,aI,hc⟩,az⟩;have aBO:=zH (aBM.keep (az.block g2 (by have:=xC.out;have:=uy.lt;omega)));have a0:=dw ((az.block _ zO).trans aBN);have su:=az.size;have lM:=zH (aI.both wX zD);have HP:=zH (hp.trans HPM);have HPW:=zH zo;obtain⟨n,hn⟩:=zF ns.length;rw[hn] at hc lM ⊢;clear hp zo aI hn bG;go_wp2_with fail;refine (t6.1 (Tryz.acY (some g2) w3)).mono ?_;rintro e w4 ⟨rfl,rfl⟩;go_wp2_with fail;refine (t6.1 (Tryz.Jg g2 m.2.length (Xw m.2) Ko w3 (ahG aBO dm (λp hp=>by have:=uS p hp;unfold maxLen;omega) (by unfold maxLen;omega)) (by rw[Xy];unfold maxLen;omega) (by rw[Xy];omega))).mono ?_;rintro e w5 ⟨v2,ss,rfl,hS,dV,EI,bg⟩;have aX:Bw w3 (w3.alloc (Zc #[.map (some g2)] 115)):=(j9 _ _).alloc (zR _) _;have Ob:=aX.seq bg;have qC:=zH (am5 dV (by rw[List.length_mergeSort]));have XB:=zH (aku (L:=m.2) (hS.trans (keys_perm m.2 (λp hp=>by have:=uS p hp;unfold maxLen;omega))));have hR5:aY w5 (λb=>w<=b/\b<(w3.alloc (Zc #[.map (some g2)] 115)).heap.size) 2 dK ns A n:=lM.keep (λb hb=>⟨⟨zO,by simp;omega⟩,Ob.block b hb.2⟩);have HR5:=zH hR5;have HB:=zH ((ai.seq ag).trans ((pW.below (B:=w) zO zS5).trans ((az.mono zO).trans (Ob.mono zO))));have Dj:=zH bg.size;clear hS dV EI hR5 aX;go_wp2_with fail
 go_ret2
 exact⟨A,n,c,ns,v2,_,_,rfl,HP,HPW,HR5,hc,qC,XB,afg ss,by simp;omega,Dj.out,HB.out⟩
end
section
open Go.Shelf
attribute [local go_sem] Oper.semAt_some
structure YM (g1 g2:Nat) (m:oI) (NS:List Nm) (TS:List ByteArray) (OT:ByteArray) (fr:ByteArray->ByteArray):Prop where
 known:∀W,iI W g1 g2 m->Cl 237 #[.agg #[.map (some g1),.map (some g2)]] W λe w'=>∃A n c v2 mid,e= .returned (.tuple #[.slice A n c,v2])/\aY w' (λb=>W.heap.size<=b/\b<mid) 2 dK NS A n/\n<=c/\ax w' mid 9 1 mG TS v2/\W.heap.size<=mid/\mid<=w'.heap.size/\Bw W w'
 other:∀W,iI W g1 g2 m->Tab W->Cl 238 #[.agg #[.map (some g1),.map (some g2)]] W λe w'=>e= .returned OT/\Bw W w'
 fresh:∀s W,iI W g1 g2 m->Tab W->Cl 239 #[.agg #[.map (some g1),.map (some g2)],.string s] W λe w'=>e= .returned (.agg #[.string s,.string (fr s)])/\Bw W w'
def Ce(NS:List Nm)(TS:List ByteArray)(OT:ByteArray)(fr:ByteArray->ByteArray):List Nm:=NS++(TS++[OT]).map λs=>(s,fr s)
theorem am8(h:l[i]?=x)(r:List α):l.take i++[x]<+:l++r:=by
 obtain⟨h1,rfl⟩:=z4.1 h;rw[<-List.take_succ_eq_append_getElem h1];exact(List.take_prefix _ _).trans (List.prefix_append _ _)
theorem akz(g1 g2 bl:Nat)(m:oI)(NS:List Nm)(TS:List ByteArray)(OT:ByteArray)(fr:ByteArray->ByteArray)(X:Nat->Prop)(w0:World)(hF:YM g1 g2 m NS TS OT fr)
 (jA:w0.heap[bl]?=Zc #[.map (some g1),.map (some g2)] 248) (hM:iI w0 g1 g2 m) (hT:Tab w0) (hX1:¬X bl) (hX2:¬X g1) (hX3:¬X g2) (hX4:¬X 1) (gX:NS.length<2000000) (htb:TS.length<2000000):
 apt prog 236 #[(bl,0)] (λx:Nm=>#[.agg #[x.1,x.2]]) X (λxs=>xs=Ce NS TS OT fr) (λpre=>pre<+:Ce NS TS OT fr) (λ_=>True) w0:=by
 intro n l J Jx W hk hB h1 h0 hY hJ;obtain⟨H1,HY,H0,HF⟩:=zJ4 h1 hY h0 hF;clear hB h1 hY h0 hF;have S0:=bF jA hk hX1;have HT:=zH (hT.keep (hk.block 1 hT.lt hX4));have HM:Hid (iI W g1 g2 m):=zH ⟨hM.1.keep (hk.block g1 hM.1.lt hX2),hM.2.keep (hk.block g2 hM.2.lt hX3)⟩;obtain⟨aN,c0,Jc,HJ⟩:=zK4 (aC S0) (dw S0) (zH S0) (zH hJ);clear S0 hk hJ;refine callsIn_of_wp func236 rfl trivial ?_ rfl;simp only[ntmps236,YV,z9,z24,Nat.reduceAdd,Nat.reduceSub,Ze,Zd,List.push_toArray,ZD,d6,m7]
 gi_wp2_with (refine⟨trivial,(λh=>by cases h),?_⟩;gi_at_call 237;refine (t6.2 (HF.known W HM)).mono ?_;rintro e w1 ⟨A,nn,c,v2,mid,rfl,aI,hc,vP,aIf,aHq,ai⟩)
 obtain⟨nC,lM,HOV⟩:=zK3 ai.size (zH aI) (zH vP);obtain⟨T,hT⟩:∃T:Nat->Prop,T=λk=>False\/(W.heap.size<=k/\k<w1.heap.size):=⟨_,rfl⟩;have hTk:∀k,T k↔W.heap.size<=k/\k<w1.heap.size:=λk=>(by rw[hT];simp);have Og:=zH hTk;have HJ1:Hid (J T [] w1):=zH (by rw[hT];exact H0 _ [] W w1 HJ (λ_ h=>h.elim) (zR _) (Qh ai));have kz:Hid (∀B:World,w1.heap.size<=B.heap.size->TB T W B):=zH λB hB k hk=>(by have:=(Og k).1 hk;omega);clear hTk hT;clear aI vP c0;gi_wp2;have Xh:=zH lM.len;have aIg:nn<2000000:=(by have:=Xh.out;omega)
 gi_loopw [16] (λs16 wr=>∃i:Nat,i<=nn/\s16= i/\J T (NS.take i) wr/\Kept (λk=>(k<W.heap.size/\X k)\/(W.heap.size<=k/\¬T k)) w1 wr)
  (λs16 _=>nn - (intOf s16).toNat)
 case atStart=>exact⟨0,zO,rfl,HJ1,Kept.refl _ _⟩
 obtain⟨i,hi,rfl,zh,eF⟩:=hrel;obtain⟨UM,pW,Bz⟩:=zK3 (zH zh) (zH eF) eF.size;have aI:aY wr (λb=>b<w1.heap.size) 2 dK NS A nn:=lM.keep (λb hb=>⟨zO,eF.block b zO (by rintro (⟨h,_⟩ | ⟨_,h⟩);omega;exact h ((Og b).2 ⟨zO,zO⟩))⟩);clear zh eF;by_cases Dt:i<nn
 ·obtain⟨b',off,a,b,HX,x0,x1,dO⟩:=aI.name Dt c;have hd:=zT1 (i<nn);obtain⟨w5,pq,S5,VC,bg⟩:=af wr (Zc #[a,b] 23);have r0:=dw S5;have hJ5:=H1 T (NS.take i) wr w5 UM (kz wr Bz) (Qh bg);have Gn:NS.take i++[(a,b)]<+:Ce NS TS OT fr:=am8 HX _;obtain⟨f2,t2,a2,b2,jW,vI⟩:=HY (n - 1) T (NS.take i) (a,b) w5 hJ5 Gn (kz w5 zO) zO;have ahI:=zH Gn
  have HTK:Hid (NS.take (i+1)=NS.take i++[(a,b)]):=zH (by
   have h:=HX.out;obtain⟨h1,h2⟩:=z4.1 h
   rw[List.take_succ_eq_append_getElem h1,h2])
  clear S5 hJ5 Gn;gi_wp2;refine⟨(λh=>by cases h),vI.mono ?_⟩;rintro e w6 (⟨rfl,hJ6,uX⟩ | ⟨rfl,hx6⟩)
  ·have HJ6:=zH hJ6;have ac4:Kept (λk=>(k<W.heap.size/\X k)\/(W.heap.size<=k/\¬T k)) w1 w6:=(pW.trans (Qh bg)).trans uX;have am9:=zH ac4;clear vI jW hJ6 uX ac4;gi_wp2;go_roundw
   case rel=>exact⟨i+1,zO,by go_num,by rw[HTK.out];exact HJ6,am9.out⟩
   simp[intOf];omega
  have HX6:=zH hx6;clear vI jW hx6;gi_wp2;refine Qg (results_none rfl _ _ _) rfl ?_;exact⟨⟨_,rfl⟩,.inr ⟨_,ahI,HX6⟩⟩
 obtain rfl:i=nn:=zO;have hd:=zT2 (i<i);obtain⟨HAL,lV,qo⟩:=zK3 (zH (show NS.take i=NS by rw[Xh.out];exact List.take_length)) HM.1.lt HM.2.lt;have PG:Hid (iI wr g1 g2 m):=zH ⟨HM.1.keep (by rw[pW.block g1 zO (by rintro (⟨_,h⟩ | ⟨h,_⟩);exact hX2 h;omega),ai.block g1 lV]),HM.2.keep (by rw[pW.block g2 zO (by rintro (⟨_,h⟩ | ⟨h,_⟩);exact hX3 h;omega),ai.block g2 qo])⟩;have aBP:=HT.lt;have je:Hid (Tab wr):=zH (HT.keep (by rw[pW.block 1 zO (by rintro (⟨_,h⟩ | ⟨h,_⟩);exact hX4 h;omega),ai.block 1 aBP]));have S0r:=Jc.out;rw[<-ai.block bl aN,<-pW.block bl zO (by rintro (⟨_,h⟩ | ⟨h,_⟩);exact hX1 h;omega)] at S0r;have c0:=dw S0r;have HOR:Hid (ax wr mid 9 1 mG TS v2):=zH (HOV.from λk h1 h2=>pW.block k h2 (by rintro (⟨h,_⟩ | ⟨_,h⟩);omega;exact h ((Og k).2 ⟨zO,zO⟩)));clear S0r;obtain⟨LL,hLL⟩:=zE (TS++[OT]);have aIh:LL.length<3000000:=(by rw[hLL,z5,TQ];omega);have HLL:=zH hLL;clear hLL
 gi_wp2_with (first
  | (refine aa7 rfl (.tmp 25) (.tmp 28) 47 rfl tyS ari mid TS [OT] v2 rfl HO7 _ 1 1 rfl am7 rfl zO zO ?_
     rintro v9 w9 zq rQ aBQ;rw[<-HLL.out] at zq;obtain⟨HO9,sD⟩:=zJ2 zq rQ
     obtain⟨A9,c9,rfl,apZ,hc9,hm9⟩:=zq.rowAt Ii zD (λb=>(W.heap.size<=b/\b<w1.heap.size)\/(wr.heap.size<=b/\b<w9.heap.size)) (by
      intro b hb;have aIi:=zq.block_lt hb
      rcases aBQ with h | h
      ·have:=HOV.block_lt (h ▸ hb);left;omega
      rw[hb] at h;cases h
      right;omega)
     have axT:=zH apZ
     clear zq rQ apZ)
  | (refine⟨trivial,(λh=>by cases h),?_⟩;gi_at_call 238;refine (t6.2 (HF.other wr PG je)).mono ?_;rintro e w7 ⟨rfl,eP⟩
     have hs7:=eP.size;obtain⟨w8,Kt,S8,aIj,eX⟩:=af w7 (Zc #[OT] 9);have HO7:Hid (ax w8 mid 9 1 mG TS v2):=zH (HOR.from λk h1 h2=>by rw[eX.block k zO,eP.block k h2]);have am7:Hid (Src w8 1 w7 1 ([OT].flatMap mG)):=zH (Src.block S8 rfl)
     clear S8))
 have hs9:=sD.size;have FQ:Kept T wr w9:=(Qh eP).trans ((Qh eX).trans ⟨sD.os,sD.tape,sD.output,sD.size,λk hk hn=>sD.block k hk (λe=>hn ((Og k).2 (by have:=HOV.block_lt e.symm;omega)))⟩);have HK9:=zH FQ;obtain⟨T2,fB⟩:∃T2:Nat->Prop,T2=λk=>T k\/(wr.heap.size<=k/\k<w9.heap.size):=⟨_,rfl⟩;have hJ9:J T2 NS w9:=(by rw[fB];have h:=H0 T _ wr w9 UM (kz wr Bz) zO FQ;rwa [HAL.out] at h);have atC:Hid (∀k,T2 k↔(W.heap.size<=k/\k<w1.heap.size)\/(wr.heap.size<=k/\k<w9.heap.size)):=zH λk=>(by rw[fB];show T k\/_↔_;rw[Og k]);have HJ9:=zH hJ9;have atD:Hid (∀B:World,w9.heap.size<=B.heap.size->TB T2 W B):=zH λB hB k hk=>(by have:=(atC k).1 hk;omega);clear FQ hJ9 fB
 gi_loopw [31] (λs31 wq=>∃k:Nat,k<=LL.length/\s31= k/\J T2 (NS++(LL.take k).map λs=>(s,fr s)) wq/\Kept (λk=>(k<W.heap.size/\X k)\/(W.heap.size<=k/\¬T2 k)) w9 wq)
  (λs31 _=>LL.length - (intOf s31).toNat)
 case atStart=>exact⟨0,zO,rfl,by simpa using HJ9.out,Kept.refl _ _⟩
 obtain⟨k,hk,rfl,hJq,hkq⟩:=hrel;obtain⟨HJQ,HKQ,aBR⟩:=zK3 (zH hJq) (zH hkq) hkq.size;clear hJq hkq;have qK:Hid (aY wr (λb=>b<w9.heap.size) 1 mG LL A9 LL.length):=zH (axT.keep λb hb=>⟨zO,HKQ.block b zO (by rintro (⟨h,_⟩ | ⟨_,h⟩);omega;exact h ((atC b).2 hb))⟩);have HMQ:Hid (iI wr g1 g2 m):=zH ⟨PG.1.keep (by have:=PG.1.lt;rw[HKQ.block g1 zO (by rintro (⟨_,h⟩ | ⟨h,_⟩);exact hX2 h;omega),HK9.block g1 this (λh=>by have:=(Og _).1 h;omega)]),PG.2.keep (by have:=PG.2.lt;rw[HKQ.block g2 zO (by rintro (⟨_,h⟩ | ⟨h,_⟩);exact hX3 h;omega),HK9.block g2 this (λh=>by have:=(Og _).1 h;omega)])⟩;have HTQ:Hid (Tab wr):=zH (je.keep (by have:=je.lt;rw[HKQ.block 1 zO (by rintro (⟨_,h⟩ | ⟨h,_⟩);exact hX4 h;omega),HK9.block 1 this (λh=>by have:=(Og _).1 h;omega)]));by_cases EC:k<LL.length
 ·obtain⟨b',off,s,HX,x0,dO⟩:=qK.str EC c9;have hd:=zT1 (k<LL.length);have S0q:=Jc.out;rw[<-ai.block bl aN] at S0q;have S0q:=bF (bF S0q pW (by rintro (⟨_,h⟩ | ⟨h,_⟩);exact hX1 h;omega)) HK9 (λh=>by have:=(Og _).1 h;omega);have S0q:=bF S0q HKQ (by rintro (⟨_,h⟩ | ⟨h,_⟩);exact hX1 h;omega);have q0:=dw S0q
  have UF:Hid ((NS++(LL.take k).map (λs=>(s,fr s)))++[(s,fr s)]=NS++(LL.take (k+1)).map (λs=>(s,fr s))):=zH (by
   obtain⟨h1,h2⟩:=z4.1 HX
   rw[List.take_succ_eq_append_getElem h1,h2,Qb,d7];rfl)
  have ahI:Hid ((NS++(LL.take k).map (λs=>(s,fr s)))++[(s,fr s)]<+:Ce NS TS OT fr):=zH (by
   rw[UF.out];unfold Ce;rw[<-HLL.out]
   exact(List.prefix_append_right_inj NS).2 ((List.take_prefix _ _).map _))
  clear S0q
  gi_wp2_with (refine⟨trivial,(λh=>by cases h),?_⟩;gi_at_call 239;refine (t6.2 (HF.fresh s wr HMQ HTQ)).mono ?_;rintro e oH ⟨rfl,Gp⟩
               have aBS:=Gp.size;have atG:=H1 T2 _ wr oH HJQ (atD wr aBR) (Qh Gp);obtain⟨f2,t2,a2,b2,jW,vI⟩:=HY (n - 1) T2 _ (s,fr s) oH atG ahI (atD oH zO) zO
               clear atG)
  refine⟨(λh=>by cases h),vI.mono ?_⟩;rintro e w6 (⟨rfl,hJ6,uX⟩ | ⟨rfl,hx6⟩)
  ·rw[UF.out] at hJ6;have HJ6:=zH hJ6;have ac4:Kept (λk=>(k<W.heap.size/\X k)\/(W.heap.size<=k/\¬T2 k)) w9 w6:=(HKQ.trans (Qh Gp)).trans uX;have am9:=zH ac4;clear vI jW hJ6 uX ac4;gi_wp2;go_roundw
   case rel=>exact⟨k+1,zO,by go_num,HJ6,am9⟩
   simp[intOf];omega
  have HX6:=zH hx6;clear vI jW hx6;gi_wp2;refine Qg (results_none rfl _ _ _) rfl ?_;exact⟨⟨_,rfl⟩,.inr ⟨_,ahI,HX6⟩⟩
 obtain rfl:k=LL.length:=zO;have hd:=zT2 (LL.length<LL.length);have HE:Hid (J T2 (Ce NS TS OT fr) wr):=zH (by have h:=HJQ.out;rw[List.take_length,HLL.out] at h;exact h);gi_wp2;refine bodyPost_end (results_none rfl _ _ _) rfl ?_;exact⟨⟨_,rfl⟩,.inl ⟨_,_,rfl,HE⟩⟩
end
section
open Go.Shelf
attribute [local go_sem] Oper.semAt_some
theorem YN(g1 g2:Nat)(w:World):
 Cl 216 #[.agg #[.map (some g1),.map (some g2)]] w λe w'=>e= .returned (.func (.func 236) #[] #[(w,0)])/\w'.heap[w.heap.size]?=Zc #[.map (some g1),.map (some g2)] 248/\Bw w w':=by
 go_enter func216,ntmps216;go_wp2;go_ret;exact⟨rfl,heap_alloc_new _ _,(j9 _ _).alloc (zR _) _⟩
end
section
open Go.Shelf
attribute [local go_sem] Oper.semAt_some
def ana(l:List Nm):List Nm:=l.mergeSort λx y=>!jg y x
def anb(l:List ByteArray):List ByteArray:=l.mergeSort λx y=>!kQ y x
theorem Oh{x y:Nm}(h:jg x y=true):jg y x=false:=by
 cases e:jg y x with
 | false=>rfl
 | true=>have:=vY h e;rw[tH] at this;cases this
theorem Oi{x y:ByteArray}(h:kQ x y=true):kQ y x=false:=by
 cases e:kQ y x with
 | false=>rfl
 | true=>have:=Cc h e;rw[aci] at this;cases this
theorem ahJ{x y z:ByteArray}(h:kQ x y=false)(k:kQ y z=false):kQ x z=false:=by
 cases e:kQ x z with
 | false=>rfl
 | true=>
   cases e2:kQ z y with
   | true=>have:=Cc e e2;rw[h] at this;cases this
   | false=>have:=zk k e2;subst this;rw[h] at e;cases e
theorem agj{l:List Nm}(hp:ns.Perm l)(hs:ns.Pairwise λx y=>jg y x=false):ns=ana l:=by
 refine List.Perm.eq_of_pairwise (le:=λx y=>jg y x=false) (λa b _ _ h k=>vZ k h) hs ?_ (hp.trans (List.mergeSort_perm _ _).symm);refine (List.pairwise_mergeSort (le:=λx y=>!jg y x) (λa b c h k=>?_) (λa b=>?_) l).imp λh=>(by simpa using h)
 ·simp only[Bool.not_eq_true'] at*;exact zM k h
 cases e:jg b a with
 | false=>simp
 | true=>simp[Oh e]
theorem agk{l ns:List ByteArray}(hp:ns.Perm l)(hs:ns.Pairwise λx y=>kQ y x=false):ns=anb l:=by
 refine List.Perm.eq_of_pairwise (le:=λx y=>kQ y x=false) (λa b _ _ h k=>zk k h) hs ?_ (hp.trans (List.mergeSort_perm _ _).symm);refine (List.pairwise_mergeSort (le:=λx y=>!kQ y x) (λa b c h k=>?_) (λa b=>?_) l).imp λh=>(by simpa using h)
 ·simp only[Bool.not_eq_true'] at*;exact ahJ k h
 cases e:kQ b a with
 | false=>simp
 | true=>simp[Oi e]
theorem ahK(g1 g2:Nat)(m:oI)(yB:m.1.length<1000000)(qY:m.2.length<1000000)(uS:∀p∈m.2,p.1.size<=1000000)(dm:pY m.2)(I0:Nat)(hI:BH (λi=>(look eqS (dL uB i) m.2).getD false) I0)(hIb:I0<10000000)
 (f:ByteArray->Nat) (hf:∀a,BH (λi=>(look eqN (a,dL xB i) m.1).isSome) (f a)) (hfb:∀a,f a<10000000):
 YM g1 g2 m (ana (zN m.1)) (anb (m.2.map (·.1))) (dL uB I0) (λa=>dL xB (f a)) where
 known W hM:=by
  refine (akv g1 g2 m W hM yB qY uS dm).mono ?_;rintro e w' ⟨A,n,c,ns,v2,ts,mid,rfl,hp,hs,hr,hc,ho,hp2,uS,h1,h2,h3⟩;rw[agj hp hs] at hr;rw[agk hp2 uS] at ho;exact⟨A,n,c,v2,mid,rfl,hr,hc,ho,h1,h2,h3⟩
 other W hM hT:=akp g1 g2 m W hM hT I0 hI hIb
 fresh s W hM hT:=aky g1 g2 m s W hM hT (f s) (hf s) (hfb s)
end
theorem ac7(lt eq:α->α->Bool)(x:α):Bj lt eq x []=[x]:=by simp[Bj,Wj]
theorem aan(lt eq:α->α->Bool)(x y:α)(l:List α):Bj lt eq x (y::l)=if lt y x then y::Bj lt eq x l else if eq y x then y::l else x::y::l:=by
 unfold Bj;rw[Wj]
 cases h:lt y x with
 | true=>
   simp only[if_true,List.getElem?_cons_succ,Zs,List.drop_succ_cons]
   cases l[Wj lt x l]? with
   | none=>simp
   | some z=>cases hz:eq z x<;>simp[hz]
 | false=>simp
theorem ui(he:∀a b,eq a b=true↔a=b){y:α}:∀{l:List α},y∈Bj lt eq x l↔y=x\/y∈l
 | []=>by rw[ac7];simp
 | z::l=>by
   rw[aan]
   cases h:lt z x with
   | true=>simp only[if_true,TT,ui he];exact⟨λh=>by rcases h with h | h | h<;>simp[h],λh=>by rcases h with h | h | h<;>simp[h]⟩
   | false=>
     cases h2:eq z x with
     | true=>have:=(he _ _).1 h2;subst this;simp
     | false=>simp
theorem Ji(he:∀a b,eq a b=true↔a=b)(ht:∀a b c,lt a b=true->lt b c=true->lt a c=true)(hto:∀a b,lt a b=false->lt b a=false->a=b):
 ∀{l:List α},l.Pairwise (λa b=>lt a b=true)->(Bj lt eq x l).Pairwise (λa b=>lt a b=true)
 | [],_=>by rw[ac7];simp
 | z::l,h=>by
   rw[aan];obtain⟨h1,h2⟩:=List.pairwise_cons.1 h
   cases h3:lt z x with
   | true=>
     simp only[if_true];refine List.pairwise_cons.2 ⟨λy hy=>?_,Ji he ht hto h2⟩
     rcases (ui he).1 hy with rfl | hy
     ·exact h3
     exact h1 y hy
   | false=>
     cases h4:eq z x with
     | true=>simpa using h
     | false=>
       simp only[b6,if_false]
       have hxz:lt x z=true:=by
        cases h5:lt x z with
        | true=>rfl
        | false=>have:=hto _ _ h3 h5;subst this;rw[(he _ _).2 rfl] at h4;cases h4
       refine List.pairwise_cons.2 ⟨λy hy=>?_,h⟩
       rcases TT.1 hy with rfl | hy
       ·exact hxz
       exact ht _ _ _ hxz (h1 y hy)
theorem jM(a b:Nm):eqN a b=true↔a=b:=by
 unfold eqN;rw[z7,iV,iV];exact⟨λh=>Prod.ext h.1 h.2,λh=>by subst h;exact⟨rfl,rfl⟩⟩
theorem lD(a b:ByteArray):eqS a b=true↔a=b:=iV
section Maps
variable {κ:Type} {eq:κ->κ->Bool}
theorem BA(he:∀a b,eq a b=true↔a=b)(k k':κ)(v:Bool):∀l:List (κ×Bool),look eq k' (iK eq k v l)=if eq k' k then some v else look eq k' l
 | []=>by simp[iK,look]
 | (a,u)::l=>by
   rw[iK]
   cases h:eq k a with
   | true=>
     have:=(he _ _).1 h;subst this;simp only[if_true,look];cases eq k' k<;>simp
   | false=>
     simp only[b6,if_false,look,BA he k k' v l]
     cases h2:eq k' a with
     | false=>simp
     | true=>
       have:=(he _ _).1 h2;subst this
       have h3:eq k' k=false:=by
        cases h4:eq k' k with
        | false=>rfl
        | true=>have:=(he _ _).1 h4;subst this;rw[(he _ _).2 rfl] at h;cases h
       simp[h3]
theorem ac8(he:∀a b,eq a b=true↔a=b)(k y:κ)(v:Bool):∀l:List (κ×Bool),y∈(iK eq k v l).map (·.1)↔y=k\/y∈l.map (·.1)
 | []=>by simp[iK]
 | (a,u)::l=>by
   rw[iK]
   cases h:eq k a with
   | true=>have:=(he _ _).1 h;subst this;simp
   | false=>
     simp only[b6,if_false,Jm,TT,ac8 he k y v l];exact⟨λh=>by rcases h with h | h | h<;>simp[h],λh=>by rcases h with h | h | h<;>simp[h]⟩
theorem Ku(he:∀a b,eq a b=true↔a=b)(k:κ)(v:Bool):∀{l:List (κ×Bool)},pY l->pY (iK eq k v l)
 | [],_=>by simp[iK,pY]
 | (a,u)::l,h=>by
   unfold pY at h ⊢;rw[Jm,List.nodup_cons] at h;rw[iK]
   cases h3:eq k a with
   | true=>have:=(he _ _).1 h3;subst this;simp only[if_true,Jm,List.nodup_cons];exact h
   | false=>
     simp only[b6,if_false,Jm,List.nodup_cons];refine⟨λhm=>?_,Ku he k v h.2⟩
     rcases (ac8 he k a v l).1 hm with e | hm
     ·subst e;rw[(he _ _).2 rfl] at h3;cases h3
     exact h.1 hm
theorem FT(he:∀a b,eq a b=true↔a=b)(k:κ):∀l:List (κ×Bool),(look eq k l).isSome=true↔k∈l.map (·.1)
 | []=>by simp[look]
 | (a,u)::l=>by
   rw[look,Jm,TT]
   cases h:eq k a with
   | true=>simp[(he _ _).1 h]
   | false=>
     simp only[b6,if_false,FT he k l];exact⟨.inr,λhh=>hh.resolve_left (λe=>by rw[(he _ _).2 e] at h;cases h)⟩
theorem ac9(he:∀a b,eq a b=true↔a=b)(k:κ)(v:Bool):∀{l:List (κ×Bool)},pY l->(look eq k l=v↔(k,v)∈l)
 | [],_=>by simp[look]
 | (a,u)::l,h=>by
   unfold pY at h;rw[Jm,List.nodup_cons] at h;rw[look,TT]
   cases h3:eq k a with
   | true=>
     have:=(he _ _).1 h3;subst this;simp only[if_true,l5,Prod.mk.injEq,true_and];refine⟨λe=>.inl e.symm,λhh=>?_⟩
     rcases hh with e | hm
     ·exact e.symm
     exact absurd (List.mem_map.2 ⟨_,hm,rfl⟩) h.1
   | false=>
     simp only[b6,if_false,ac9 he k v (l:=l) h.2,Prod.mk.injEq];exact⟨.inr,λhh=>hh.resolve_left (λe=>by rw[(he _ _).2 e.1] at h3;cases h3)⟩
end Maps
structure kH (av:List Nm) (p:oI) (m:wY):Prop where
 RN:pY p.1
 RP:pY p.2
 VE:m.1.Pairwise (λx y=>jg x y=true)
 VF:m.2.Pairwise (λx y=>kQ x y=true)
 t1:∀x,look eqN x p.1=some true↔x∈m.1
 f1:∀x,(look eqN x p.1).isSome=true↔x∈m.1\/x∈av
 t2:∀s,look eqS s p.2=some true↔s∈m.2
 f2:∀s,(look eqS s p.2).isSome=true↔s∈m.2
theorem kH.qy(h:kH av p m)(s:ByteArray):kH av (p.1,iK eqS s true p.2) (m.1,qy m.2 s) where
 RN:=h.RN
 RP:=Ku lD s true h.RP
 VE:=h.VE
 VF:=Ji (lt:=kQ) lD (λ_ _ _=>Cc) (λ_ _=>zk) h.VF
 t1:=h.t1
 f1:=h.f1
 t2 x:=by
  rw[BA lD];show _↔x∈Bj kQ eqS s m.2;rw[ui lD]
  cases e:eqS x s with
  | true=>simp[(lD _ _).1 e]
  | false=>simp only[b6,if_false,h.t2];exact⟨.inr,λhh=>hh.resolve_left λe2=>by rw[(lD _ _).2 e2] at e;cases e⟩
 f2 x:=by
  rw[BA lD];show _↔x∈Bj kQ eqS s m.2;rw[ui lD]
  cases e:eqS x s with
  | true=>simp[(lD _ _).1 e]
  | false=>simp only[b6,if_false,h.f2];exact⟨.inr,λhh=>hh.resolve_left λe2=>by rw[(lD _ _).2 e2] at e;cases e⟩
theorem kH.sF(h:kH av p m)(n:Nm):kH av (iK eqN n true p.1,p.2) (sF m.1 n,m.2) where
 RN:=Ku jM n true h.RN
 RP:=h.RP
 VE:=Ji (lt:=jg) jM (λ_ _ _=>vY) (λ_ _=>vZ) h.VE
 VF:=h.VF
 t2:=h.t2
 f2:=h.f2
 t1 x:=by
  rw[BA jM];show _↔x∈Bj jg eqN n m.1;rw[ui jM]
  cases e:eqN x n with
  | true=>simp[(jM _ _).1 e]
  | false=>simp only[b6,if_false,h.t1];exact⟨.inr,λhh=>hh.resolve_left λe2=>by rw[(jM _ _).2 e2] at e;cases e⟩
 f1 x:=by
  rw[BA jM];show _↔x∈Bj jg eqN n m.1\/_;rw[ui jM]
  cases e:eqN x n with
  | true=>simp[(jM _ _).1 e]
  | false=>simp only[b6,if_false,h.f1,or_assoc];exact⟨.inr,λhh=>hh.resolve_left λe2=>by rw[(jM _ _).2 e2] at e;cases e⟩
mutual
theorem kH.Bl:∀(c:aT) {p:oI} {m:wY},kH av p m->kH av (J9 c p) (Bl c m)
 | .mk k ns nl s ex ar,p,m,h=>by
   rw[J9,YtgmnnegfndpakaaGreatDoor.Bl];refine kH.jP ar (kH.jP ex ?_);by_cases h1:k=1
   ·rw[j6 h1,j6 h1];exact(h.sF (ns,nl)).qy ns
   rw[j5 h1,j5 h1];by_cases h2:k=2
   ·rw[j6 h2,j6 h2];exact h.qy s
   rw[j5 h2,j5 h2];exact h
theorem kH.jP:∀(l:List aT) {p:oI} {m:wY},kH av p m->kH av (kT l p) (jP l m)
 | [],_,_,h=>by rw[kT,YtgmnnegfndpakaaGreatDoor.jP];exact h
 | c::l,_,_,h=>by rw[kT,YtgmnnegfndpakaaGreatDoor.jP];exact kH.jP l (kH.Bl c h)
end
theorem Kv:∀(av:List Nm) (L:List (Nm×Bool)),pY L->(∀x,look eqN x L≠some true)->
 pY (av.foldl (λm x=>iK eqN x false m) L)/\(∀x,look eqN x (av.foldl (λm x=>iK eqN x false m) L)≠some true)/\(∀x,(look eqN x (av.foldl (λm x=>iK eqN x false m) L)).isSome=true↔(look eqN x L).isSome=true\/x∈av)
 | [],L,h1,h2=>⟨h1,h2,λx=>by simp⟩
 | a::av,L,h1,h2=>by
   obtain⟨g1,g2,g3⟩:=Kv av (iK eqN a false L) (Ku jM a false h1) (λx=>by
    rw[BA jM];cases eqN x a<;>simp[h2 x])
   refine⟨g1,g2,λx=>?_⟩;rw[JN,g3,BA jM,TT]
   cases e:eqN x a with
   | true=>simp[(jM _ _).1 e]
   | false=>
     have:x≠a:=λe2=>(by rw[(jM _ _).2 e2] at e;cases e);simp[this]
theorem kH.start(av:List Nm):kH av (G8 av,[]) ([],[]) where
 RN:=(Kv av [] (by simp[pY]) (λx=>by simp[look])).1
 RP:=by simp[pY]
 VE:=List.Pairwise.nil
 VF:=List.Pairwise.nil
 t1 x:=by have:=(Kv av [] (by simp[pY]) (λx=>by simp[look])).2.1 x;unfold G8;simp[this]
 f1 x:=by have:=(Kv av [] (by simp[pY]) (λx=>by simp[look])).2.2 x;unfold G8;rw[this];simp[look]
 t2 s:=by simp[look]
 f2 s:=by simp[look]
theorem kH.all(av:List Nm)(l:List aT):kH av (kT l (G8 av,[])) (YtgmnnegfndpakaaGreatDoor.jP l ([],[])):=kH.jP l (kH.start av)
theorem kH.names(h:kH av p m):ana (zN p.1)=m.1:=by
 have AX:m.1.Nodup:=h.VE.imp λ{a b} nz e=>(by subst e;rw[tH] at nz;cases nz);refine (agj ((List.perm_ext_iff_of_nodup AX ?_).2 λx=>?_) (h.VE.imp λnz=>Oh nz)).symm
 ·exact List.Nodup.sublist (List.Sublist.map _ List.filter_sublist) h.RN
 rw[<-h.t1 x,ac9 jM x true h.RN];unfold zN;simp
theorem kH.spaces(h:kH av p m):anb (p.2.map (·.1))=m.2:=by
 have AX:m.2.Nodup:=h.VF.imp λ{a b} nz e=>(by subst e;rw[aci] at nz;cases nz);refine (agk ((List.perm_ext_iff_of_nodup AX (show (p.2.map (·.1)).Nodup from h.RP)).2 λx=>?_) (h.VF.imp λnz=>Oi nz)).symm;rw[<-h.f2 x,FT lD]
theorem kH.taken(h:kH av p m)(a:ByteArray)(i:Nat):(look eqN (a,dL xB i) p.1).isSome=IA m.1 av a i:=by
 rw[m9,h.f1,Wl,z12]
theorem kH.Fe(h:kH av p m)(i:Nat):(look eqS (dL uB i) p.2).getD false=YtgmnnegfndpakaaGreatDoor.Fe m.2 i:=by
 have h1:=h.t2 (dL uB i);have h2:=h.f2 (dL uB i);unfold YtgmnnegfndpakaaGreatDoor.Fe;rw[m9,abK,<-h1]
 cases look eqS (dL uB i) p.2 with
 | none=>simp
 | some b=>cases b<;>simp
theorem kH.len1(h:kH av p m):p.1.length<=m.1.length+av.length:=by
 have:=wZ (p.1.map (·.1)) (m.1++av) h.RN (λx hx=>by
  rw[z12,<-h.f1];exact(FT jM x p.1).2 hx)
 simpa using this
theorem kH.aBT(h:kH av p m):p.2.length<=m.2.length:=by
 have:=wZ (p.2.map (λq=>q.1)) m.2 (show (p.2.map (λq=>q.1)).Nodup from h.RP) (λx hx=>by
  rw[<-h.f2];exact(FT lD x p.2).2 hx)
 simpa using this
theorem kH.mem2(h:kH av p m){q:ByteArray×Bool}(hq:q∈p.2):q.1∈m.2:=by
 rw[<-h.f2];exact(FT lD q.1 p.2).2 (List.mem_map.2 ⟨q,hq,rfl⟩)
mutual
theorem akC:∀(c:aT) {m:wY},rU c=true->(∀s∈m.2,s.size<=200)->∀s∈(Bl c m).2,s.size<=200
 | .mk k ns nl s ex ar,m,h,hm=>by
   rw[rU,z7,z7] at h;obtain⟨⟨h1,h2⟩,h3⟩:=h;obtain⟨_,_,_,g1,g2⟩:=Uh h3;rw[Bl];refine Kw ar h2 (Kw ex h1 ?_);by_cases e1:k=1
   ·rw[j6 e1];have hv:=g1 e1;unfold jJ at hv;simp only[z7,gy] at hv;intro x hx
    rcases (ui lD).1 hx with rfl | hx
    ·exact hv.2
    exact hm x hx
   rw[j5 e1];by_cases e2:k=2
   ·rw[j6 e2];intro x hx
    rcases (ui lD).1 hx with rfl | hx
    ·exact g2 e2
    exact hm x hx
   rw[j5 e2];exact hm
theorem Kw:∀(l:List aT) {m:wY},lI l=true->(∀s∈m.2,s.size<=200)->∀s∈(jP l m).2,s.size<=200
 | [],m,_,hm=>by rw[jP];exact hm
 | c::l,m,h,hm=>by
   rw[lI,z7] at h;rw[jP];exact Kw l h.2 (akC c h.1 hm)
end
theorem anc(m:wY)(av:List Nm):Ce m.1 m.2 (amh m.2) (λa=>(Wn m.1 av a).2)=abj m av:=by
 unfold Ce abj;rw[Qb,d7];rfl
theorem afh(g1 g2:Nat)(l:List aT)(av:List Nm)(hl:lI l=true)(_hn:iZ l<1000000)(ha:av.length<100000)(h1:iZ l+av.length<1000000):
 YM g1 g2 (kT l (G8 av,[])) (jP l ([],[])).1 (jP l ([],[])).2 (amh (jP l ([],[])).2) (λa=>(Wn (jP l ([],[])).1 av a).2):=by
 have hR:=kH.all av l;have hlen:=Iz l ([],[]);obtain⟨p,hp⟩:=zF (kT l (G8 av,[]));have bY:=Kw l (m:=([],[])) hl zP;obtain⟨m,hm⟩:=zF (jP l ([],[]));rw[hp,hm] at hR;rw[hm] at hlen bY;rw[hp,hm];simp only[z24,d9] at hlen;obtain⟨e1,e2,hS,hN⟩:=zK4 hR.len1 hR.aBT (Qv (axH m.2)) (λa=>Qv (axG m.1 av a))
 have key:=ahK g1 g2 p zO zO (λq hq=>by have:=bY _ (hR.mem2 hq);omega) hR.RP (BI (Fe m.2)) (by simpa only[hR.Fe] using hS.1) zO
  (λa=>BI (IA m.1 av a)) (λa=>by simpa only[hR.taken] using (hN a).1) (λa=>by have:=(hN a).2;rw[z5] at this;omega)
 rw[hR.names,hR.spaces] at key;exact key
mutual
def mnC:aT->List Nm
 | .mk k ns nl _ ex ar=>(if k=1 then [(ns,nl)] else [])++mnL ex++mnL ar
def mnL:List aT->List Nm
 | []=>[]
 | c::l=>mnC c++mnL l
end
mutual
def msC:aT->List ByteArray
 | .mk k ns _ s ex ar=>(if k=1 then [ns] else if k=2 then [s] else [])++msL ex++msL ar
def msL:List aT->List ByteArray
 | []=>[]
 | c::l=>msC c++msL l
end
theorem ada(l:List Nm)(x y:Nm):y∈sF l x↔y=x\/y∈l:=ui jM
theorem VG(l:List ByteArray)(x y:ByteArray):y∈qy l x↔y=x\/y∈l:=ui lD
mutual
theorem ay5{p:Prop} (h:p:=by
 simp only[e,e2,if_false,List.not_mem_nil,false_or]
 exact⟨λh=>by rcases h with h | h | h<;>simp[h],λh=>by rcases h with (h | h) | h<;>simp[h]⟩):p:=h
theorem ane:∀(c:aT) (m:wY),(∀x,x∈(Bl c m).1↔x∈mnC c\/x∈m.1)/\(∀s,s∈(Bl c m).2↔s∈msC c\/s∈m.2)
 | .mk k ns nl s ex ar,m=>by
   rw[Bl];obtain⟨h1,h2⟩:=VH ar (jP ex (if k=1 then (sF m.1 (ns,nl),qy m.2 ns) else if k=2 then (m.1,qy m.2 s) else m));obtain⟨h3,h4⟩:=VH ex (if k=1 then (sF m.1 (ns,nl),qy m.2 ns) else if k=2 then (m.1,qy m.2 s) else m);refine⟨λx=>?_,λx=>?_⟩
   ·rw[h1,h3,mnC,z12,z12];by_cases e:k=1
    ·simp only[e,if_true,ada,og];exact⟨λh=>by rcases h with h | h | h | h<;>simp[h],λh=>by rcases h with ((h | h) | h) | h<;>simp[h]⟩
    by_cases e2:k=2
    ·simp only[e2,if_true];simp only[show ¬((2:Int)=1) by decide,if_false,List.not_mem_nil,false_or];exact⟨λh=>by rcases h with h | h | h<;>simp[h],λh=>by rcases h with (h | h) | h<;>simp[h]⟩
    exact ay5
   rw[h2,h4,msC,z12,z12];by_cases e:k=1
   ·simp only[e,if_true,VG,og];exact⟨λh=>by rcases h with h | h | h | h<;>simp[h],λh=>by rcases h with ((h | h) | h) | h<;>simp[h]⟩
   by_cases e2:k=2
   ·simp only[e2,if_true];simp only[show ¬((2:Int)=1) by decide,if_false,VG,og];exact⟨λh=>by rcases h with h | h | h | h<;>simp[h],λh=>by rcases h with ((h | h) | h) | h<;>simp[h]⟩
   exact ay5
theorem VH:∀(l:List aT) (m:wY),(∀x,x∈(jP l m).1↔x∈mnL l\/x∈m.1)/\(∀s,s∈(jP l m).2↔s∈msL l\/s∈m.2)
 | [],m=>by rw[jP,mnL,msL];simp
 | c::l,m=>by
   rw[jP,mnL,msL];obtain⟨h1,h2⟩:=VH l (Bl c m);obtain⟨h3,h4⟩:=ane c m;refine⟨λx=>?_,λx=>?_⟩
   ·rw[h1,h3,z12];exact⟨λh=>by rcases h with h | h | h<;>simp[h],λh=>by rcases h with (h | h) | h<;>simp[h]⟩
   rw[h2,h4,z12];exact⟨λh=>by rcases h with h | h | h<;>simp[h],λh=>by rcases h with (h | h) | h<;>simp[h]⟩
end
theorem arE{l l':List Nm}(h:l.Pairwise λx y=>jg x y=true)(h':l'.Pairwise λx y=>jg x y=true)(hm:∀x,x∈l↔x∈l'):l=l':=by
 have nd:l.Nodup:=h.imp λ{a b} nz e=>(by subst e;rw[tH] at nz;cases nz);have nd':l'.Nodup:=h'.imp λ{a b} nz e=>(by subst e;rw[tH] at nz;cases nz);exact List.Perm.eq_of_pairwise (le:=λx y=>jg y x=false) (λa b _ _ h k=>vZ k h) (h.imp λnz=>Oh nz) (h'.imp λnz=>Oh nz) ((List.perm_ext_iff_of_nodup nd nd').2 hm)
theorem arF{l l':List ByteArray}(h:l.Pairwise λx y=>kQ x y=true)(h':l'.Pairwise λx y=>kQ x y=true)(hm:∀x,x∈l↔x∈l'):l=l':=by
 have nd:l.Nodup:=h.imp λ{a b} nz e=>(by subst e;rw[aci] at nz;cases nz);have nd':l'.Nodup:=h'.imp λ{a b} nz e=>(by subst e;rw[aci] at nz;cases nz);exact List.Perm.eq_of_pairwise (le:=λx y=>kQ y x=false) (λa b _ _ h k=>zk k h) (h.imp λnz=>Oi nz) (h'.imp λnz=>Oi nz) ((List.perm_ext_iff_of_nodup nd nd').2 hm)
theorem anf(c1 c2:aT):EJ [c1,c2]=WH (jF c1) (jF c2):=by
 rw[EJ,EJ,EJ,Wx,Wx];unfold WH;by_cases h1:jF c1=0
 ·rw[j6 h1,j6 h1];by_cases h2:jF c2=0
  ·rw[j6 h2,h2]
  rw[j5 h2]
 rw[j5 h1,j5 h1]
theorem adb{e1 e2:Int}(h:WH e1 e2=0):e1=0/\e2=0:=by
 unfold WH at h;by_cases h1:e1=0
 ·rw[j6 h1] at h;exact⟨h1,h⟩
 rw[j5 h1] at h;exact absurd h h1
theorem azN{a b s:ByteArray}(h:a=s↔b=s):eqS s a=eqS s b:=by
 rw[m9,iV,iV];exact⟨λe=>(h.1 e.symm).symm,λe=>(h.2 e.symm).symm⟩
mutual
theorem aeR{x y:Nm}:∀c:aT,(∀n∈mnC c,(x=n↔y=n))->(∀s∈msC c,(x.1=s↔y.1=s))->vk c x.1 x.2=vk c y.1 y.2
 | .mk k ns nl s ex ar,hn,hs=>by
   rw[mnC] at hn;rw[msC] at hs;rw[vk,vk];have h1:=az4 (x:=x) (y:=y) ex (λn h=>hn n (by simp[h])) (λs h=>hs s (by simp[h]));have h2:=aqL (x:=x) (y:=y) ar (λn h=>hn n (by simp[h])) (λs h=>hs s (by simp[h]));rw[h1,h2]
   congr 1
   by_cases e1:k=1
   ·have h3:=hn (ns,nl) (by simp[e1]);rw[j6 e1,j6 e1,m9,z7,z7,iV,iV,iV,iV];constructor
    ·rintro⟨rfl,rfl⟩;have:=h3.1 rfl;rw[this];exact⟨rfl,rfl⟩
    rintro⟨rfl,rfl⟩;have:=h3.2 rfl;rw[this];exact⟨rfl,rfl⟩
   rw[j5 e1,j5 e1];by_cases e2:k=2
   ·rw[j6 e2,j6 e2];exact azN (hs s (by simp[e2]))
   rw[j5 e2,j5 e2]
theorem az4{x y:Nm}:∀l:List aT,(∀n∈mnL l,(x=n↔y=n))->(∀s∈msL l,(x.1=s↔y.1=s))->inH l x.1 x.2=inH l y.1 y.2
 | [],_,_=>by rw[inH,inH]
 | c::l,hn,hs=>by
   rw[inH,inH];exact aeR c (λn h=>hn n (by rw[mnL];simp[h])) (λs h=>hs s (by rw[msL];simp[h]))
theorem aqL{x y:Nm}:∀l:List aT,(∀n∈mnL l,(x=n↔y=n))->(∀s∈msL l,(x.1=s↔y.1=s))->Cm l x.1 x.2=Cm l y.1 y.2
 | [],_,_=>by rw[Cm,Cm]
 | c::l,hn,hs=>by
   rw[Cm,Cm,aeR c (λn h=>hn n (by rw[mnL];simp[h])) (λs h=>hs s (by rw[msL];simp[h])),aqL l (λn h=>hn n (by rw[mnL];simp[h])) (λs h=>hs s (by rw[msL];simp[h]))]
end
theorem ajM:∀{l:List aT},c∈l->(∀n∈mnC c,n∈mnL l)/\(∀s∈msC c,s∈msL l)
 | d::l,h=>by
   rw[mnL,msL]
   rcases TT.1 h with rfl | h
   ·exact⟨λn h=>by simp[h],λs h=>by simp[h]⟩
   have:=ajM h;exact⟨λn h=>by simp[this.1 n h],λs h=>by simp[this.2 s h]⟩
theorem ak8(st av:List Nm)(a:ByteArray):Wn st av a ∉ st/\Wn st av a ∉ av:=by
 have h:=(Qv (axG st av a)).1.1;have h2:¬(a,dL xB (BI (IA st av a)))∈st++av:=λhm=>(by rw[(Wl st av a _).2 hm] at h;cases h);rw[z12,not_or] at h2;exact h2
theorem aEJ(st:List ByteArray):amh st ∉ st:=by
 have h:=(Qv (axH st)).1.1;intro hm;have h2:Fe st (BI (Fe st))=true:=(abK _ _).2 hm;rw[h2] at h;cases h
structure alL (m:wY):Prop where
 sp:∀n∈m.1,n.1∈m.2
 VE:m.1.Pairwise (λx y=>jg x y=true)
 VF:m.2.Pairwise (λx y=>kQ x y=true)
def ajB(f:Nm->Bool)(m:wY):Prop:=∀x y:Nm,(∀n∈m.1,(x=n↔y=n))->(∀s∈m.2,(x.1=s↔y.1=s))->f x=f y
mutual
theorem azO:∀(c:aT) (n:Nm),n∈mnC c->n.1∈msC c
 | .mk k ns nl s ex ar,n,h=>by
   rw[mnC,z12,z12] at h;rw[msC,z12,z12]
   rcases h with (h | h) | h
   ·by_cases e:k=1
    ·rw[j6 e] at h;rw[j6 e];obtain rfl:=og.1 h;simp
    rw[j5 e] at h;simp at h
   ·exact .inl (.inr (ajC ex n h))
   exact .inr (ajC ar n h)
theorem ajC:∀(l:List aT) (n:Nm),n∈mnL l->n.1∈msL l
 | [],n,h=>by rw[mnL] at h;simp at h
 | c::l,n,h=>by
   rw[mnL,z12] at h;rw[msL,z12];exact h.imp (azO c n) (ajC l n)
end
theorem aub(l:List aT):alL (jP l ([],[])) where
 sp:=λn hn=>by
  rw[(VH l ([],[])).1] at hn;rw[(VH l ([],[])).2];exact hn.imp (ajC l n) (λh=>by simp at h)
 VE:=(kH.all [] l).VE
 VF:=(kH.all [] l).VF
theorem azP{l:List aT}(hc:c∈l){x y:Nm}(h1:∀n∈(jP l ([],[])).1,(x=n↔y=n))(h2:∀s∈(jP l ([],[])).2,(x.1=s↔y.1=s)):vk c x.1 x.2=vk c y.1 y.2:=
 aeR c (λn hn=>h1 n (((VH l ([],[])).1 n).2 (.inl ((ajM hc).1 n hn)))) (λs hs=>h2 s (((VH l ([],[])).2 s).2 (.inl ((ajM hc).2 s hs))))
theorem az5(Zk:Int)(c1 c2:aT)(l:List aT)(h1:c1∈l)(h2:c2∈l):ajB (ahc Zk c1 c2) (jP l ([],[])):=λx y ha hb=>by
 unfold ahc;rw[azP h1 ha hb,azP h2 ha hb]
section
variable {f:Nm->Bool} {m:wY}
theorem az6(hm:alL m)(hf:ajB f m){y:Nm}(hy:y.1 ∉ m.2):f y=f (Wn m.1 [] (amh m.2)):=by
 refine hf _ _ (λn hn=>⟨λe=>absurd (by rw[e];exact hm.sp n hn) hy,λe=>absurd (by rw[e];exact hn) (ak8 m.1 [] (amh m.2)).1⟩) (λs hs=>⟨λe=>absurd (by rw[e];exact hs) hy,λe=>absurd (by rw[show amh m.2=s from e];exact hs) (aEJ m.2)⟩)
theorem az7(hf:ajB f m){y:Nm}(hy:y ∉ m.1):f y=f (Wn m.1 [] y.1):=
 hf _ _ (λn hn=>⟨λe=>absurd (by rw[e];exact hn) hy,λe=>absurd (by rw[e];exact hn) (ak8 m.1 [] y.1).1⟩) (λs _=>Iff.rfl)
theorem az8(hm:alL m)(hf:ajB f m)(y:Nm):∃x∈abj m [],f x=f y:=by
 by_cases h1:y∈m.1
 ·exact⟨y,by unfold abj;simp[h1],rfl⟩
 by_cases h2:y.1∈m.2
 ·exact⟨Wn m.1 [] y.1,by unfold abj;simp;exact .inr (.inl ⟨_,h2,rfl⟩),(az7 hf h1).symm⟩
 exact⟨Wn m.1 [] (amh m.2),by unfold abj;simp,(az6 hm hf h2).symm⟩
theorem azQ(hm:alL m)(hf:ajB f m):TF f m=true↔∃y,f y=true:=by
 unfold TF;rw[Qc];exact⟨λ⟨x,_,h⟩=>⟨x,h⟩,λ⟨y,h⟩=>by obtain⟨x,hx,e⟩:=az8 hm hf y;exact⟨x,hx,e.trans h⟩⟩
end
section
variable {α:Type} [Inhabited α] [DecidableEq α]
theorem TV(d:Array α)(x:α):∀m,x∈Lib.compactUpTo d m↔∃j,j<m/\d[j]! =x
 | 0=>by simp[Lib.compactUpTo]
 | m+1=>by
   rw[Lib.compactUpTo_succ,z12,TV d x m];constructor
   ·rintro (⟨j,hj,rfl⟩ | h)
    ·exact⟨j,zO,rfl⟩
    split at h
    ·rw[og] at h;exact⟨m,zO,h.symm⟩
    simp at h
   rintro⟨j,hj,rfl⟩;by_cases hk:Lib.keeps d m=true
   ·by_cases e:j=m
    ·subst e;right;rw[j6 hk];simp
    exact .inl ⟨j,zO,rfl⟩
   left;by_cases e:j=m
   ·subst e
    have h:¬(j=0\/d[j]!≠d[j - 1]!):=by
     intro h;exact hk (by unfold Lib.keeps;exact decide_eq_true h)
    have h0:j≠0:=λh'=>h (.inl h')
    have h1:d[j]! =d[j - 1]!:=by
     by_cases e1:d[j]! =d[j - 1]!
     ·exact e1
     exact absurd (.inr e1) h
    exact⟨j - 1,zO,h1.symm⟩
   exact⟨j,zO,rfl⟩
theorem TW{lt:α->α->Bool}(hn:∀{x y z:α},lt x y=false->lt y z=false->lt x z=false)(ht:∀{x y:α},lt x y=false->lt y x=false->x=y)
 (d:Array α) (hs:∀i j,i<j->j<d.size->lt d[j]! d[i]! =false):∀m,m<=d.size->(Lib.compactUpTo d m).Pairwise λx y=>lt x y=true
 | 0,_=>by simp[Lib.compactUpTo]
 | m+1,hm=>by
   rw[Lib.compactUpTo_succ]
   split
   ·rename_i hk;rw[List.pairwise_append];refine⟨TW (lt:=lt) hn ht d hs m zO,zP,λx hx y hy=>?_⟩;rw[og] at hy;subst hy;obtain⟨j,hj,rfl⟩:=(TV d x m).1 hx;have fM:m=0\/d[m]!≠d[m - 1]!:=(by unfold Lib.keeps at hk;exact of_decide_eq_true hk)
    have h0:d[m]!≠d[m - 1]!:=by
     rcases fM with h | h
     ·omega
     exact h
    have h1:lt d[m]! d[m - 1]! =false:=hs (m - 1) m zO zO
    cases h2:lt d[j]! d[m]! with
    | true=>rfl
    | false=>
      have h3:lt d[m - 1]! d[m]! =false:=by
       by_cases e:j=m - 1
       ·subst e;exact h2
       exact hn (hs j (m - 1) zO zO) h2
      exact absurd (ht h1 h3) h0
   simp only[m8];exact TW (lt:=lt) hn ht d hs m zO
end
theorem DL[Inhabited α]{j:Nat}(h:j<l.length):l.toArray[j]! =l[j]:=by
 rw[getElem!_pos l.toArray j (by simpa using h)];simp
theorem anX(l:List Nm):∀acc:List Nm,(acc.Pairwise λx y=>jg x y=true)->((l.foldl sF acc).Pairwise λx y=>jg x y=true)/\∀x,x∈l.foldl sF acc↔x∈acc\/x∈l:=by
 induction l with
 | nil=>intro acc h;exact⟨h,λx=>by simp⟩
 | cons y l ih=>
   intro acc h;obtain⟨h1,h2⟩:=ih (sF acc y) (Ji (lt:=jg) jM (λ_ _ _=>vY) (λ_ _=>vZ) h);refine⟨h1,λx=>?_⟩;rw[JN,h2,ada,TT];exact⟨λh=>by rcases h with (h | h) | h<;>simp[h],λh=>by rcases h with h | h | h<;>simp[h]⟩
theorem anY(l:List ByteArray):∀acc:List ByteArray,(acc.Pairwise λx y=>kQ x y=true)->((l.foldl qy acc).Pairwise λx y=>kQ x y=true)/\∀x,x∈l.foldl qy acc↔x∈acc\/x∈l:=by
 induction l with
 | nil=>intro acc h;exact⟨h,λx=>by simp⟩
 | cons y l ih=>
   intro acc h;obtain⟨h1,h2⟩:=ih (qy acc y) (Ji (lt:=kQ) lD (λ_ _ _=>Cc) (λ_ _=>zk) h);refine⟨h1,λx=>?_⟩;rw[JN,h2,VG,TT];exact⟨λh=>by rcases h with (h | h) | h<;>simp[h],λh=>by rcases h with h | h | h<;>simp[h]⟩
theorem ad6{l:List Nm}(hp:ns.Perm l)(hs:ns.Pairwise λx y=>jg y x=false):Lib.compact ns=l.foldl sF []:=by
 obtain⟨h1,h2⟩:=anX l [] List.Pairwise.nil;refine arE ?_ h1 λx=>?_
 ·unfold Lib.compact;refine TW (lt:=jg) zM vZ ns.toArray (λi j Fz hj=>?_) ns.length zP;have GL:j<ns.length:=(by simpa using hj);rw[DL GL,DL zO];exact List.pairwise_iff_getElem.1 hs i j zO GL Fz
 unfold Lib.compact;rw[TV,h2,<-hp.mem_iff];constructor
 ·rintro⟨j,hj,rfl⟩;exact .inr (List.mem_iff_getElem.2 ⟨j,hj,(DL hj).symm⟩)
 rintro (h | h)
 ·simp at h
 obtain⟨j,hj,rfl⟩:=List.mem_iff_getElem.1 h;exact⟨j,hj,DL hj⟩
theorem ad7{ss l:List ByteArray}(hp:ss.Perm l)(hs:fU ss=(fU l).mergeSort (λx y=>decide (x<=y))):UY (Lib.compact (fU ss))=l.foldl qy []:=by
 obtain⟨h1,h2⟩:=anY l [] List.Pairwise.nil
 have zo:(fU ss).Pairwise λx y=>x<=y:=by
  rw[hs]
  have:=List.pairwise_mergeSort (le:=λx y:List UInt8=>decide (x<=y)) (λa b c h1 h2=>by
   simp only[gy] at*
   exact List.le_trans h1 h2) (λa b=>by
   have:=List.le_total a b
   simpa using this) (fU l)
  exact this.imp λh=>by simpa using h
 have jb:∀x:List UInt8,x∈fU ss↔(⟨x.toArray⟩:ByteArray)∈ss:=λx=>by
  conv=>rhs;rw[<-anW ss]
  unfold UY;rw[List.mem_map];constructor
  ·exact λh=>⟨x,h,rfl⟩
  rintro⟨y,hy,he⟩;have:y=x:=(by simpa using congrArg (λb:ByteArray=>b.data.toList) he);exact this ▸ hy
 refine arF ?_ h1 λx=>?_
 ·unfold UY;rw[List.pairwise_map]
  have:=TW (lt:=λx y:List UInt8=>decide (x<y)) (λ{x y z} h1 h2=>by
   simp only[decide_eq_false_iff_not,List.not_lt] at*
   exact List.le_trans h2 h1) (λ{x y} h1 h2=>by
   simp only[decide_eq_false_iff_not,List.not_lt] at*
   exact List.le_antisymm h2 h1) (fU ss).toArray (λi j Fz hj=>by
   have GL:j<(fU ss).length:=(by simpa using hj);rw[DL GL,DL zO];have:=List.pairwise_iff_getElem.1 zo i j zO GL Fz
   simpa using this) (fU ss).length zP
  unfold Lib.compact
  exact this.imp λh=>by
   unfold kQ;simpa using h
 unfold Lib.compact UY;rw[h2,<-hp.mem_iff,List.mem_map]
 have key:∀y:List UInt8,y∈Lib.compactUpTo (fU ss).toArray (fU ss).length↔y∈fU ss:=λy=>by
  rw[TV,List.mem_iff_getElem];constructor
  ·rintro⟨j,hj,rfl⟩;exact⟨j,hj,(DL hj).symm⟩
  rintro⟨j,hj,rfl⟩;exact⟨j,hj,DL hj⟩
 constructor
 ·rintro⟨y,hy,rfl⟩;exact .inr ((jb y).1 ((key y).1 hy))
 rintro (h | h)
 ·simp at h
 refine⟨x.data.toList,(key _).2 ((jb _).2 ?_),?_⟩
 ·simpa using h
 simp
