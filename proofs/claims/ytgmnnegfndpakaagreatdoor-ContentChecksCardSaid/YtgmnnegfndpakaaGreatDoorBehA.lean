import Derived.Test.YtgmnnegfndpakaaGreatDoorG36
import Derived.Test.YtgmnnegfndpakaaGreatDoorG37
set_option maxHeartbeats 20000000
set_option maxRecDepth 100000
namespace Go.Proofs.YtgmnnegfndpakaaGreatDoor
open Go.RowKit
attribute [local go_sem] Oper.semAt_some
theorem Jk(w:World)(base:Nat)(l:List Nat)(v:Value)(dV:ax w base 3 1 aV l v)(g c x:Nat)(hc:w.cell? ⟨g,0,none⟩=some (.int .i64 (x:Int)))(hlen:l.length<1000000000000)(eY:base<=w.heap.size)(ty:TypeId):
 ∃v' w',(Builtin.append_ #[58,58] ty #[v,.slice (some ⟨g,0,none⟩) 1 c]).run Tryz.prog w= .ok v' w'/\ax w' base 3 1 aV (l++[x]) v'/\w.grownBy w' v.ownBlock/\(v'.ownBlock=v.ownBlock\/v'.ownBlock=some w.heap.size):=by
 obtain⟨ht,i,hi,hz,bY,nP,ry,h0,-⟩:=tyI
 obtain⟨v',w',bG,h2,h3,-,h5⟩:=run_append_own_at (P:=Tryz.prog) w base 58 ty 3 i _ 1 8 ht hi hz bY nP ry h0 v _ _ dV ⟨g,0,none⟩ 1 c [.int .i64 (x:Int)] rfl (λj u hu=>by
  cases j with
  | zero=>
    obtain rfl:(Value.int .i64 (x:Int))=u:=(by simpa using hu);simpa[Addr.add] using hc
  | succ j=>simp at hu) (by intro u hu;rw[List.mem_singleton.1 hu];rfl) (by unfold maxLen;omega) zO eY
 refine⟨v',w',bG,?_,h3,h5⟩;unfold ax;rw[z5,List.flatMap_append];exact h2
theorem zt{F:Fence}{n:Nat}{P:Program}{ops:Array Oper}{rest:List Oper}{o:Oper}{a:Act}{Q:Exit->Act->World->Prop}{w:World}(uO:o.guard=none)(s x:Operand)(t:TypeId)
 (uQ:o.op= .call { callee:=.builtin .append,args:=#[s,x],argTypes:=#[t,t] }) {v1 v2 v:Value} {w':World} (hs:a.eval s=v1) (hx:a.eval x=v2) (bG:(Builtin.append_ #[t,t] o.type #[v1,v2]).run P w= .ok v w')
 (h:wpListIn F n P ops Q rest (a.put o.dst v) w'):wpListIn F n P ops Q (o::rest) a w:=by
 refine wpListIn_plain uO λK hK'=>?_;unfold Oper.wpIn;refine⟨?_,?_⟩
 ·simp[Oper.about,uQ,resolve,Target.leads,Sem.run_pure]
 ·rw[Oper.semAt_plain F _ _ (by rw[uQ];intro c yu;cases yu)]
  simp[execOp,uQ,resolve,invoke,builtin,hs,hx,bG,Result.andThen];exact hK' _ _ h
def YR(m:eQ)(s:Nat):Prop:=(m.all=[]->s<=m.places.length)/\s<1000000
theorem anu(m:eQ)(B bm g1 g2 s:Nat)(w0:World)(X:Nat->Prop)(hM:mO w0 B bm m)(fQ:mQ m)(hB:B<=w0.heap.size)(h1:w0.heap[g1]?=some (.cells #[.pointer (some ⟨bm,0,none⟩)] 93))(h2:w0.heap[g2]?=some (.cells #[.int .i64 s] 3))(hX:∀q,X q->¬q<B/\g1≠q/\g2≠q)(hs:YR m s):
 ∃rl:List SC,rl.map (·.1)=gK m s/\(∀x∈rl,au w0 (· <B) (aZ x.1.leaf) x.2)/\yF Tryz.prog 145 #[.pointer (some ⟨g1,0,none⟩),.pointer (some ⟨g2,0,none⟩)] EK X (· =rl) (· <+:rl) w0:=by
 by_cases dW:m.all=[]
 ·exact ann m B bm g1 g2 s w0 X hM fQ hB h1 h2 hX dW (hs.1 dW)
 ·exact anq m B bm g1 g2 s w0 X hM fQ hB h1 h2 hX dW hs.2
theorem Oo{m:eQ}(fQ:mQ m){s:Nat}{y:Stp}(h:y∈gK m s):xE m.elems y.leaf:=by
 unfold gK at h
 split at h
 ·obtain⟨i,_,hi⟩:=List.mem_flatMap.1 h
  unfold CP at hi
  split at hi
  ·rename_i q hq
   rw[og] at hi;subst hi;exact fQ.leaf i q hq
  ·simp at hi
 ·have key:∀(l:List aJ) (s i u q:Nat),(∀p∈l,xE m.elems p)->y∈qH l s i u q->xE m.elems y.leaf:=by
   intro l
   induction l with
   | nil=>intro s i u q _ h;rw[qH] at h;simp at h
   | cons p l ih=>
     intro s i u q hl h;rw[qH,z12] at h
     rcases h with h | h
     ·split at h
      ·rw[og] at h;subst h;exact hl p zP
      ·simp at h
     ·exact ih _ _ _ _ (λp hp=>hl p (by simp[hp])) h
  exact key m.all s 0 1 s (λp hp=>(fQ.all p hp).1) h
theorem KA{w:World}{g:Nat}{t:TypeId}{fr:Nat×Nat}{v0 v1 v2 v3 v4 v5 v6 v7 v8 v9 v10 v11 v12 v13:Value}(h:w.heap[g]?=some (.cells #[v0,v1,v2,v3,v4,v5,v6,v7,v8,v9,v10,v11,v12,v13] t fr)):
 w.cell? ⟨g,0,none⟩=some v0/\w.cell? ⟨g,1,none⟩=some v1/\w.cell? ⟨g,2,none⟩=some v2/\w.cell? ⟨g,3,none⟩=some v3/\w.cell? ⟨g,4,none⟩=some v4/\w.cell? ⟨g,5,none⟩=some v5/\w.cell? ⟨g,6,none⟩=some v6/\w.cell? ⟨g,7,none⟩=some v7/\w.cell? ⟨g,8,none⟩=some v8/\w.cell? ⟨g,9,none⟩=some v9/\w.cell? ⟨g,10,none⟩=some v10/\w.cell? ⟨g,11,none⟩=some v11/\w.cell? ⟨g,12,none⟩=some v12/\w.cell? ⟨g,13,none⟩=some v13:=by
 refine⟨?_,?_,?_,?_,?_,?_,?_,?_,?_,?_,?_,?_,?_,?_⟩<;>rw[cell_of_row w g _ _ _ _ h]<;>rfl
def abp(D:Nat):Deferred:={ target:=.collected D,args:=#[] }
def ji(ds:List Nat)(w:World):Prop:=ds.Nodup/\∀D∈ds,w.heap[D]?=some (.deferred (some []))
theorem ji.keep{ds:List Nat}{w w':World}(h:ji ds w)(hk:∀D∈ds,w'.heap[D]?=w.heap[D]?):ji ds w':=⟨h.1,λD hD=>(hk D hD).trans (h.2 D hD)⟩
theorem ji.below{ds:List Nat}{w w':World}(h:ji ds w)(hb:Bw w w'):ji ds w':=h.keep λD hD=>hb.block D (aC (h.2 D hD))
theorem ji.ne{ds:List Nat}{w:World}(h:ji ds w){g:Nat}{cs:Array Value}{t:TypeId}{fr:Nat×Nat}(hg:w.heap[g]?=some (.cells cs t fr)):∀D∈ds,D≠g:=λD hD e=>by
 have:=h.2 D hD;rw[e,hg] at this;cases this
theorem ax.bC{α:Type}{w:World}{base:Nat}{e:TypeId}{sz:Nat}{cells:α->List Value}{l:List α}{v:Value}(h:ax w base e sz cells l v){k:Nat}(hk:v.ownBlock=some k):∃cs,w.heap[k]?=some (.cells cs e (0,0)):=by
 rcases h.2 with ⟨rfl,_⟩ | ⟨g,cap,cur,rfl,_,hh,_⟩
 ·cases hk
 ·cases hk
  exact⟨cur,hh⟩
theorem qc{F:Fence}{n:Nat}{P:Program}{fn:Func}{tmps:Array Value}{R:Ending->World->Prop}:∀(ds:List Nat) (w:World),ji ds w->(∀w',Kept (λq=>q∈ds) w w'->LeavesInM F n P fn tmps R [] .returning w')->LeavesInM F n P fn tmps R (ds.map abp) .returning w
 | [],w,_,h=>h w (Kept.refl _ _)
 | D::ds,w,h,hR=>by
   rw[List.map_cons];have AX:=List.nodup_cons.1 h.1;refine⟨zP,.inl ⟨D,_,rfl,run_takeDeferred (h.2 D zP),?_⟩⟩;have hk:Kept (λq=>q=D) w (w.putObj D (.deferred none)):=dF _ _ _ rfl;refine qc ds _ ⟨AX.2,λE hE=>?_⟩ λw' fM=>hR w' ((fE hk λq e=>by rw[e];simp).trans (fE fM λq e=>by simp[e]));exact bF (h.2 E (by simp[hE])) hk (λe=>AX.1 (e ▸ hE))
theorem adr{l l':List Nat}(h:∀x,x∈l↔x∈l'):sset l=sset l':=WG (qW _) (qW _) λx=>by rw[wI,wI,h]
structure Ha where
 k:Int
 mn:Int
 mx:Int
 el:Int
 ck:Int
 ns:ByteArray
 nl:ByteArray
 sp:ByteArray
 A1:Option Addr
 n1:Nat
 c1:Nat
 A2:Option Addr
 n2:Nat
 c2:Nat
 pr:Int
 A:Option Addr
 n:Nat
 c:Nat
def Ha.cells(p:Ha):List Value:=[.int .i64 p.k,.int .i64 p.mn,.int .i64 p.mx,.int .i64 p.el,.int .i64 p.ck,.string p.ns,.string p.nl,.string p.sp,.slice p.A1 p.n1 p.c1,.slice p.A2 p.n2 p.c2,.int .i64 p.pr,.slice p.A p.n p.c]
abbrev SP:=Stp×Ha
def UO(x:SP):SC:=(x.1,x.2.cells)
def spE(x:SP):Array Value:=EK (UO x)
theorem yF.map{α β:Type}{P:Program}{g:Nat}{lb:Array Value}{encs:α->Array Value}{X:Nat->Prop}{w0:World}(f:β->α){rl:List β}(h:yF P g lb encs X (· =rl.map f) (· <+:rl.map f) w0):yF P g lb (λx=>encs (f x)) X (· =rl) (· <+:rl) w0:=by
 intro n l J Jx W hk h1 hY hJ;refine (h n l (λpre A=>pre<+:rl.map f/\J (rl.take pre.length) A) (λpre A=>pre<+:rl.map f/\Jx (rl.take pre.length) A) W hk (λpre A B h hs hb=>⟨h.1,h1 _ A B h.2 hs hb⟩) ?_ ⟨List.nil_prefix,by simpa using hJ⟩).mono ?_
 ·rintro m pre x A ⟨hp,hJ⟩ mM hs
  obtain⟨t,ht⟩:=mM
  have hlen:pre.length<rl.length:=by
   have:=congrArg List.length ht;simp at this;omega
  have hx:f rl[pre.length]=x:=by
   have h2:=congrArg (λl=>l[pre.length]?) ht;simp only[List.append_assoc,z21 (zR _),Nat.sub_self,List.singleton_append,List.getElem?_cons_zero,z17,z6 hlen,Option.map_some,Option.some.injEq] at h2;exact h2.symm
  have Xt:rl.take (pre++[x]).length=rl.take pre.length++[rl[pre.length]]:=by
   rw[z5,z16,List.take_add_one,z6 hlen,Option.toList_some]
  have Gn:rl.take pre.length++[rl[pre.length]]<+:rl:=by rw[<-Xt];exact List.take_prefix _ _
  obtain⟨fn,tm,asg,bo,h3,h4⟩:=hY m _ _ A hJ Gn hs;dsimp only at h3;rw[hx] at h3;refine⟨fn,tm,asg,bo,h3,h4.mono ?_⟩;rintro e B (⟨he,h5,h6⟩ | ⟨he,h5⟩)
  ·exact .inl ⟨he,⟨⟨t,ht⟩,by rw[Xt];exact h5⟩,h6⟩
  ·exact .inr ⟨he,⟨t,ht⟩,by rw[Xt];exact h5⟩
 ·rintro e B ⟨hv,(⟨xs,rfl,-,h2⟩ | ⟨pre,-,hp,h2⟩)⟩
  ·refine⟨hv,.inl ⟨rl,rfl,?_⟩⟩
   rwa [z8,List.take_length] at h2
  ·exact⟨hv,.inr ⟨_,List.take_prefix _ _,h2⟩⟩
theorem agz(m:eQ)(B bm g1 g2 s:Nat)(w0:World)(X:Nat->Prop)(hM:mO w0 B bm m)(fQ:mQ m)(hB:B<=w0.heap.size)(h1:w0.heap[g1]?=some (.cells #[.pointer (some ⟨bm,0,none⟩)] 93))(h2:w0.heap[g2]?=some (.cells #[.int .i64 s] 3))(hX:∀q,X q->¬q<B/\g1≠q/\g2≠q)(hs:YR m s):
 ∃rl:List SP,rl.map (·.1)=gK m s/\(∀x∈rl,au w0 (· <B) (aZ x.1.leaf) x.2.cells)/\yF Tryz.prog 145 #[.pointer (some ⟨g1,0,none⟩),.pointer (some ⟨g2,0,none⟩)] spE X (· =rl) (· <+:rl) w0:=by
 obtain⟨rl,h3,h4,h5⟩:=anu m B bm g1 g2 s w0 X hM fQ hB h1 h2 hX hs
 have key:∀l:List SC,(∀x∈l,au w0 (· <B) (aZ x.1.leaf) x.2)->∃l':List SP,l'.map UO=l:=by
  intro l
  induction l with
  | nil=>exact λ_=>⟨[],rfl⟩
  | cons x l ih=>
    intro h;obtain⟨l',rfl⟩:=ih λy hy=>h y (by simp[hy]);obtain⟨k,mn,mx,el,ck,ns,nl,sp,A1,n1,c1,A2,n2,c2,pr,A,n,c,e,-⟩:=aW (h x zP);exact⟨(x.1,⟨k,mn,mx,el,ck,ns,nl,sp,A1,n1,c1,A2,n2,c2,pr,A,n,c⟩)::l',by rw[List.map_cons];congr 1;exact Prod.ext rfl e.symm⟩
 obtain⟨rl',rfl⟩:=key rl h4;refine⟨rl',by rw[<-h3,List.map_map];rfl,λx hx=>h4 (UO x) (List.mem_map_of_mem hx),?_⟩;exact yF.map UO h5
theorem Dv(m:eQ)(B bm:Nat)(set:List Nat)(A:Option Addr)(n c:Nat)(a b:ByteArray)(w:World)(hM:mO w B bm m)(fQ:mQ m)(hB:B<=w.heap.size)(aI:aY w (· <w.heap.size) 1 aV set A n)(hn:n<=1000000)(bZ:∀s∈set,YR m s)(uw:∀s,(gK m s).length<=300000):
 Calls Tryz.prog 63 #[.pointer (some ⟨bm,0,none⟩),.slice A n c,.agg #[.string a,.string b]] w λe w'=>∃v,e= .returned v/\ax w' w.heap.size 3 1 aV (lZ m set (a,b)) v/\Bw w w':=by
 obtain⟨w1,bI,S1,S2,S3,nC,ai⟩:=rD w (.cells #[.pointer (some ⟨bm,0,none⟩)] 93) (.cells #[.string a,.string b] 23) (.cells #[.slice none 0 0] 58)
 have e1:w1.heap.size=w.heap.size+1+1+1:=by rw[<-bI];simp
 have aQ:=zH S1;have gY:=zH S2;have vC:=zH S3;have HM:=zH hM;have jr:=zH fQ;have lM:=zH aI;have sV:=zH bZ;have wu:=zH uw;have HN:=zH aI.1;clear S1 S2 S3 hM fQ aI bZ uw;refine (callsIn_wide (n:=3)).1 ?_;refine callsIn_of_wp_marks Tryz.func63 rfl trivial ?_ rfl;simp only[Tryz.ntmps63,List.size_toArray,z9,z24,Nat.reduceAdd,Nat.reduceSub,Array.replicate_succ,Array.replicate_zero,List.push_toArray,List.append_toArray,List.nil_append,List.cons_append];gi_wp2
 refine wpIn_loop (λa' wr=>∃(u9 u10 u14 u15 u16 u17 u18 u19 u21 u22 u23 u24 u25 u26 u27 u28 u29 u30 u31:Value) (ds:List Nat) (k:Nat) (v:Value),(k<=n/\wr.heap[w.heap.size+1+1]?=some (.cells #[v] 58)/\ax wr w1.heap.size 3 1 aV ((set.take k).flatMap (IJ m (a,b))) v/\Kept (λq=>q=w.heap.size+1+1\/w1.heap.size<=q) w1 wr/\ji ds wr/\∀D∈ds,¬D<w.heap.size)/\
  a'={ tmps:=#[.pointer (some ⟨bm,0,none⟩),.slice A n c,.agg #[.string a,.string b],.pointer (some ⟨w.heap.size,0,none⟩),undef,.pointer (some ⟨w.heap.size+1,0,none⟩),.slice none 0 0,.pointer (some ⟨w.heap.size+1+1,0,none⟩),undef,u9,u10,.slice A n c,.int .i64 n,.int .i64 k,u14,u15,u16,u17,u18,u19,undef,u21,u22,u23,u24,u25,u26,u27,u28,u29,u30,u31,undef,undef,undef,undef],defers:=ds.map abp })
  (λa' _=>n - (intOf (a'.tmps.getD 13 undef)).toNat) ?start ?round
 case start=>exact⟨_,_,_,_,_,_,_,_,_,_,_,_,_,_,_,_,_,_,_,[],0,_,⟨zO,vC.out,ax.nil _ _ _ _ _,Kept.refl _ _,⟨List.nodup_nil,λD h=>(by simp at h)⟩,λD h=>(by simp at h)⟩,rfl⟩
 case round=>
  rintro _ wr ⟨u9,u10,u14,u15,u16,u17,u18,u19,u21,u22,u23,u24,u25,u26,u27,u28,u29,u30,u31,ds,k,v,⟨hk,hv,dV,eF,FU,Oq⟩,rfl⟩;have Ot:=zH Oq;clear Oq;(try dsimp only);by_cases aN:k<n
  ·have jV:decide (k<n)=true:=by simp;omega
   have iO:∀q,q<w.heap.size->wr.heap[q]?=w.heap[q]?:=λq h=>(eF.block q zO zO).trans (ai.block q h);have CE:aY wr (· <w.heap.size) 1 aV set A n:=lM.out.keep λq h=>⟨h,iO q h⟩;obtain⟨sb,so,s,yD,jw,dO⟩:=CE.nat aN c;have T1:=bF aQ.out eF zO;have T2:=bF gY.out eF zO;have d1:=aO T1;have d2:=dw T2;have gW:=zH T1;have fC:=zH T2;have HV:=zH hv;have qC:=zH dV;have pW:=zH eF;have ads:=zH iO;have zY:=zH FU;clear T1 T2 hv dV eF CE iO FU
   gi_wp2_with (refine⟨trivial,?_⟩;gi_at_call 82;refine (callsIn_wide.2 (RU bm s wr)).mono ?_;rintro e w4 ⟨rfl,U1,U2,e4,aX⟩)
   have hBr:Below B w wr:=(ai.mono hB).trans (pW.out.below zO zO);have hB4:Below B w w4:=hBr.trans (aX.mono (by have:=pW.out.size;omega));have s1r:w1.heap.size<=wr.heap.size:=pW.out.size;have Ea:mO w4 B bm m:=HM.out.below hB4;obtain⟨rl,AU,kP,yQ⟩:=agz m B bm wr.heap.size (wr.heap.size+1) s w4 (λq=>w.heap.size<=q/\q<wr.heap.size) Ea jr.out zO U1 U2 (λq hq=>by omega) (sV.out s (z13 yD.out));have BR:=zH AU;have HRC:=zH kP;have GZ:=zH Ea;have HB4:=zH hB4;have hlen:rl.length<=300000:=(by rw[<-z8 (f:=(·.1)),AU];exact wu.out s);have pR:=zH hlen;obtain⟨o0,Dw⟩:=zF ((set.take k).flatMap (IJ m (a,b)));rw[Dw] at qC
   have XJ:o0.length<=k*300000:=by
    rw[<-Dw]
    have key:∀l:List Nat,(l.flatMap (IJ m (a,b))).length<=l.length*300000:=by
     intro l
     induction l with
     | nil=>simp
     | cons y l ih=>
       rw[List.flatMap_cons,z5,z9,Nat.add_mul,Nat.one_mul,Nat.add_comm];refine Nat.add_le_add ih ?_;unfold IJ;rw[z8];exact zT (List.length_filter_le _ _) (wu.out y)
    refine zT (key _) (Nat.mul_le_mul_right _ ?_);rw[List.length_take];omega
   have adt:o0.length+300000<1000000000000:=by
    have h1:k*300000<=1000000*300000:=Nat.mul_le_mul_right _ zO;omega
   have HO0:=zH Dw;have HOL:=zH adt;clear AU kP Ea hB4 hlen Dw XJ adt U1 U2 d1 d2 jw
   refine Lp (gf:=145) (lb:=#[.pointer (some ⟨wr.heap.size,0,none⟩),.pointer (some ⟨wr.heap.size+1,0,none⟩)]) rfl (enters_of Tryz.func145 zK rfl) yQ (Kept.refl _ _) (λq hq=>by omega) (λ_=>rfl)
    (λpre W=>∃v,W.heap[w.heap.size+1+1]?=some (.cells #[v] 58)/\ax W w1.heap.size 3 1 aV (o0++(pre.filter λx=>Gf m.elems x.1.leaf (a,b)).map (·.1.dst)) v/\(∀q,v.ownBlock=some q->q<wr.heap.size\/w4.heap.size+2<=q)/\Kept (λq=>q=w.heap.size+1+1\/w1.heap.size<=q) w1 W/\ji ds W)
    (λ_ _ _=>False) ?hI ?hL (λ_ _ _ _ h=>h.elim) ?h0
    (λx W=>{ tmps:=#[.pointer (some ⟨bm,0,none⟩),.slice A n c,.agg #[.string a,.string b],.pointer (some ⟨w.heap.size,0,none⟩),undef,.pointer (some ⟨w.heap.size+1,0,none⟩),.slice none 0 0,.pointer (some ⟨w.heap.size+1+1,0,none⟩),undef,.int .i64 s,.pointer (some ⟨W.heap.size,0,none⟩),.slice A n c,.int .i64 n,.int .i64 k,.bool true,.pointer (some ⟨sb,so+k,none⟩),.int .i64 s,.pointer (some ⟨bm,0,none⟩),.int .i64 s,.func (.func 145) #[] #[.pointer (some ⟨wr.heap.size,0,none⟩),.pointer (some ⟨wr.heap.size+1,0,none⟩)],.agg #[.int .i64 x.1.dst,.int .i64 x.1.num,.int .i64 x.2.k,.int .i64 x.2.mn,.int .i64 x.2.mx,.int .i64 x.2.el,.int .i64 x.2.ck,.string x.2.ns,.string x.2.nl,.string x.2.sp,.slice x.2.A1 x.2.n1 x.2.c1,.slice x.2.A2 x.2.n2 x.2.c2,.int .i64 x.2.pr,.slice x.2.A x.2.n x.2.c],u21,u22,u23,u24,u25,u26,u27,u28,u29,u30,u31,undef,undef,undef,undef],defers:=[] })
    (λx W=>W.alloc (.cells #[.int .i64 x.1.dst,.int .i64 x.1.num,.int .i64 x.2.k,.int .i64 x.2.mn,.int .i64 x.2.mx,.int .i64 x.2.el,.int .i64 x.2.ck,.string x.2.ns,.string x.2.nl,.string x.2.sp,.slice x.2.A1 x.2.n1 x.2.c1,.slice x.2.A2 x.2.n2 x.2.c2,.int .i64 x.2.pr,.slice x.2.A x.2.n x.2.c] 139)) (λ_ W=>(Below.refl _ _).alloc (zR _) _) ?assign ?body ?done (λ_ _ _ _ h=>h.elim)
   case hI=>
    rintro pre A' B' ⟨v,h1,h2,h3,h4,h5⟩ _ hb;exact⟨v,ae h1 hb,h2.bu λq hq=>hb.block q (aS h2 q hq.symm).2,h3,h4.trans (Kept.of_below hb),h5.below hb⟩
   case hL=>
    rintro pre A' B' ⟨v,h1,h2,h3,h4,h5⟩ _ fM;exact⟨v,bF h1 fM zO,h2.bu λq hq=>fM.block q (aS h2 q hq.symm).2 (by have:=h3 q hq;omega),h3,h4.trans (fE fM λq hq=>by omega),h5.keep λD hD=>fM.block D (aC (h5.2 D hD)) (by have:=aC (zY.out.2 D hD);omega)⟩
   case h0=>
    intro W mV _;have hb:=aX.seq mV;refine⟨v,ae HV.out hb,?_,λq hq=>.inl (aS qC.out q hq.symm).2,pW.out.trans (Kept.of_below hb),zY.out.below hb⟩;rw[List.filter_nil,List.map_nil,List.append_nil];exact qC.out.bu λq hq=>hb.block q (aS qC.out q hq.symm).2
   case assign=>
    intro mm l x W K hK;simp only[spE,UO,EK,Ha.cells,List.cons_append,List.nil_append];gi_wp2;exact hK
   case body=>
    rintro mm l pre ⟨y,⟨kx,gU,gz,gZ,ig,ik,iq,iw,iy,iC,iD,iE,iF,iG,iH,Ax,nx,cx⟩⟩ W W2 ⟨v',h1,h2,h3,h4,h5⟩ mM o8 hkW;have XC:(W.alloc (.cells #[.int .i64 y.dst,.int .i64 y.num,.int .i64 kx,.int .i64 gU,.int .i64 gz,.int .i64 gZ,.int .i64 ig,.string ik,.string iq,.string iw,.slice iy iC iD,.slice iE iF iG,.int .i64 iH,.slice Ax nx cx] 139)).heap.size=W.heap.size+1:=(by simp);have hW2:W.heap.size+1<=W2.heap.size:=(by rw[<-XC];exact hkW.size);have S9:W2.heap[W.heap.size]?=some (.cells #[.int .i64 y.dst,.int .i64 y.num,.int .i64 kx,.int .i64 gU,.int .i64 gz,.int .i64 gZ,.int .i64 ig,.string ik,.string iq,.string iw,.slice iy iC iD,.slice iE iF iG,.int .i64 iH,.slice Ax nx cx] 139):=bF (heap_alloc_new W _) hkW zO;obtain⟨x0,x1,x2,x3,x4,x5,x6,x7,x8,x9,yM,yN,x12,x13⟩:=KA S9;have hlW:∀q,q<w1.heap.size->q≠w.heap.size+1+1->W2.heap[q]?=w1.heap[q]?:=λq hq dD=>h4.block q hq zO;have T1:=(hlW _ zO zO).trans aQ.out;have T2:=(hlW _ zO zO).trans gY.out;have d1:=aO T1;have d2:=dw T2;have jb:(y,(⟨kx,gU,gz,gZ,ig,ik,iq,iw,iy,iC,iD,iE,iF,iG,iH,Ax,nx,cx⟩:Ha))∈rl:=mM.subset zP;have hBW:Below B w W2:=(ai.mono hB).trans (h4.below zO zO);have iO:∀q,q<B->W2.heap[q]?=w4.heap[q]?:=λq hq=>(hBW.block q hq).trans (HB4.out.block q hq).symm;have bH:au W2 (· <B) (aZ y.leaf) [.int .i64 kx,.int .i64 gU,.int .i64 gz,.int .i64 gZ,.int .i64 ig,.string ik,.string iq,.string iw,.slice iy iC iD,.slice iE iF iG,.int .i64 iH,.slice Ax nx cx]:=(HRC.out _ jb).keep λq hq=>⟨hq,iO q hq⟩;have KC:xE m.elems y.leaf:=Oo jr.out (s:=s) (by rw[<-BR.out];exact List.mem_map_of_mem (f:=(·.1)) jb)
    obtain⟨av,D6⟩:=zF (Gf m.elems y.leaf (a,b))
    have at7:Hid (Rt 132 #[.pointer (some ⟨bm,0,none⟩),.agg (o5 kx gU gz gZ ig ik iq iw iy iC iD iE iF iG iH Ax nx cx),.agg #[.string a,.string b]] W2 (.bool av)):=zH (by
     have h:=afd m B bm y.leaf _ a b W2 (HM.out.below hBW) (by have:=hBW.size;omega) bH KC
     rw[D6] at h;exact h)
    have adw:(pre++[(y,(⟨kx,gU,gz,gZ,ig,ik,iq,iw,iy,iC,iD,iE,iF,iG,iH,Ax,nx,cx⟩:Ha))]).filter (λx=>Gf m.elems x.1.leaf (a,b))=pre.filter (λx=>Gf m.elems x.1.leaf (a,b))++(if av=true then [(y,(⟨kx,gU,gz,gZ,ig,ik,iq,iw,iy,iC,iD,iE,iF,iG,iH,Ax,nx,cx⟩:Ha))] else []):=by
     rw[List.filter_append]
     congr 1
     rw[<-D6];simp only[List.filter_cons,List.filter_nil]
    obtain⟨o1,uz⟩:=zF (o0++(pre.filter λx=>Gf m.elems x.1.leaf (a,b)).map (·.1.dst));rw[uz] at h2
    have adx:o1.length<1000000000000:=by
     have h5:(pre.filter λx=>Gf m.elems x.1.leaf (a,b)).length<=pre.length:=List.length_filter_le _ _;have h6:pre.length<=rl.length:=(by have:=mM.length_le;rw[z5] at this;omega);have h7:=pR.out;have h8:=HOL.out;rw[<-uz,z5,z8];omega
    have ady:=zH adw;have DY:=zH uz;have anv:=zH adx;have H1:=zH h1;have H2:=zH h2;have H3:=zH h3;have H4:=zH h4;have XD:=zH S9;have H5:=zH h5;clear h5 adw uz adx h1 h2 h3 h4 D6 bH KC jb mM iO hBW hlW T1 T2 S9 hkW XC;cases av
    ·gi_wp2_with (refine⟨trivial,(λh=>by cases h),?_⟩;gi_at_call 132;refine ((callsIn_wide.2 at7.out).inRound l).mono ?_;rintro e w7 ⟨rfl,eP⟩)
     refine⟨Kept.of_below eP,v',ae H1.out eP,?_,H3.out,H4.out.trans (Kept.of_below eP),H5.out.below eP⟩;rw[ady.out];simp only[Bool.false_eq_true,if_false,List.append_nil];rw[DY.out];exact H2.out.bu λq hq=>eP.block q (aS H2.out q hq.symm).2
    ·gi_wp2_with (first
      | (refine⟨trivial,(λh=>by cases h),?_⟩;gi_at_call 132;refine ((callsIn_wide.2 at7.out).inRound l).mono ?_;rintro e w7 ⟨rfl,eP⟩
         have V7:=ae H1.out eP;have c7:=aO V7;clear x0 x1 x2 x3 x4 x5 x6 x7 x8 x9 yM yN x12 x13;obtain⟨x0,-⟩:=KA (ae XD.out eP);obtain⟨w8,Kt,S8,hs8,eX⟩:=af w7 (.cells #[.int .i64 y.dst] 3);have dY:=eP.seq eX;have XK:ax w8 w1.heap.size 3 1 aV o1 v':=H2.out.bu λq hq=>dY.block q (aS H2.out q hq.symm).2;have s78:W2.heap.size<=w8.heap.size:=dY.size;obtain⟨v2,w9,bG,zq,rQ,FQ⟩:=Jk w8 w1.heap.size o1 v' XK w7.heap.size 1 y.dst (aO S8) anv.out zO 58;obtain⟨B2,b2,rfl⟩:=zq.form;obtain⟨nb,gX⟩:=zF ((o1++[y.dst]).length);rw[gX] at bG zq FQ;have V9:w9.heap[w.heap.size+1+1]?=some (.cells #[v'] 58):=(rQ.block _ (by have:=aC V7;omega) (λe=>by have:=(aS H2.out _ e).1;omega)).trans (ae V7 eX);have c9:=aO V9;have f9:=frozen_of_row w9 (w.heap.size+1+1) 0 _ _ V9;have qB:=zH bG;have HO9:=zH zq;have sD:=zH rQ;have HK9:=zH FQ;have HV9:=zH V9;have Eh:=zH dY;have HSW:=zH s78
         clear gX bG zq rQ FQ V9 V7 dY XK s78 S8)
      | (refine zt rfl (.tmp 26) (.tmp 29) 58 rfl rfl rfl qB.out ?_))
     have ahQ:Kept (λq=>(w.heap.size<=q/\q<wr.heap.size)\/w4.heap.size+2<=q) W2 (w9.setCell ⟨w.heap.size+1+1,0,none⟩ (.slice B2 nb b2)):=by
      have k1:Kept (λq=>(w.heap.size<=q/\q<wr.heap.size)\/w4.heap.size+2<=q) W2 w8:=Kept.of_below Eh.out
      have k2:Kept (λq=>(w.heap.size<=q/\q<wr.heap.size)\/w4.heap.size+2<=q) w8 w9:=⟨sD.out.os,sD.out.tape,sD.out.output,sD.out.size,λq hq hn=>sD.out.block q hq (λe=>by
       have h5:=(aS H2.out q e).1
       rcases H3.out q e.symm with h6 | h6
       ·exact hn (.inl ⟨zO,h6⟩)
       ·exact hn (.inr h6))⟩
      exact(k1.trans k2).setCell (p:=⟨w.heap.size+1+1,0,none⟩) (.inl (.inl ⟨by show w.heap.size<=w.heap.size+1+1;omega,by show w.heap.size+1+1<wr.heap.size;omega⟩)) _
     have dD:∀q,(Value.slice B2 nb b2).ownBlock=some q->w1.heap.size<=q/\(q<wr.heap.size\/w4.heap.size+2<=q):=λq hq=>by
      rcases HK9.out with h5 | h5
      ·have h6:=h5.symm.trans hq
       exact⟨(aS H2.out q h6.symm).1,H3.out q h6⟩
      ·have h6:=zI (h5.symm.trans hq)
       have:=HSW.out;exact⟨zO,.inr zO⟩
     have jl:Kept (λq=>q=w.heap.size+1+1\/w1.heap.size<=q) w1 (w9.setCell ⟨w.heap.size+1+1,0,none⟩ (.slice B2 nb b2)):=by
      have k2:Kept (λq=>q=w.heap.size+1+1\/w1.heap.size<=q) w8 w9:=⟨sD.out.os,sD.out.tape,sD.out.output,sD.out.size,λq hq hn=>sD.out.block q hq (λe=>hn (.inr (aS H2.out q e).1))⟩;exact((H4.out.trans (Kept.of_below Eh.out)).trans k2).setCell (p:=⟨w.heap.size+1+1,0,none⟩) (.inl (.inl rfl)) _
     have PL:ji ds w9:=(H5.out.below Eh.out).keep λD hD=>sD.out.block D (aC ((H5.out.below Eh.out).2 D hD)) (λe=>by
      obtain⟨cs,fJ⟩:=H2.out.bC e.symm
      exact H5.out.ne fJ D hD rfl)
     have hd6:ji ds (w9.setCell ⟨w.heap.size+1+1,0,none⟩ (.slice B2 nb b2)):=PL.keep λD hD=>gq (PL.ne HV9.out D hD);refine⟨ahQ,_,bD HV9.out,?_,λq hq=>(dD q hq).2,jl,hd6⟩;rw[ady.out];simp only[if_true,List.map_append,List.map_cons,List.map_nil,<-List.append_assoc];rw[DY.out];exact HO9.out.bu λq hq=>gq (by have:=dD q hq;omega)
   case done=>
    rintro xs W rfl ⟨v',h1,h2,h3,h4,h5⟩ hK
    have XL:ji (w4.heap.size::ds) W:=⟨List.nodup_cons.2 ⟨λh=>by have:=aC (zY.out.2 _ h);omega,h5.1⟩,λD hD=>by
     rcases List.mem_cons.1 hD with rfl | hD
     ·exact hK
     ·exact h5.2 D hD⟩
    have jC:(set.take (k+1)).flatMap (IJ m (a,b))=o0++(xs.filter λx=>Gf m.elems x.1.leaf (a,b)).map (·.1.dst):=by
     rw[List.take_add_one,yD.out,Option.toList_some,List.flatMap_append,List.flatMap_singleton,HO0.out]
     congr 1
     unfold IJ;rw[<-BR.out,List.filter_map,List.map_map];rfl
    have Ky:=zH jC;have H1:=zH h1;have H2:=zH h2;have H4:=zH h4;have HDS:=zH XL;clear h1 h2 h3 h4 h5 hK XL jC;(try simp only[Exit.inBlock,Exit.then]);gi_wp2
    refine⟨⟨_,_,_,_,_,_,_,_,_,_,_,_,_,_,_,_,_,_,_,w4.heap.size::ds,k+1,v',⟨zO,H1.out,by rw[Ky.out];exact H2.out,H4.out,HDS.out,λD hD=>by
     rcases List.mem_cons.1 hD with rfl | hD
     ·omega
     ·exact Ot.out D hD⟩,rfl⟩,?_⟩
    simp[intOf];omega
  ·obtain rfl:k=n:=by omega
   have jV:decide (k<k)=false:=(by simp);have jo:set.take k=set:=List.take_of_length_le (by rw[<-HN.out];exact zR _);rw[jo] at dV;obtain⟨o0,Dw⟩:=zF (set.flatMap (IJ m (a,b)));rw[Dw] at dV
   have XJ:o0.length<1000000000000:=by
    rw[<-Dw]
    have key:∀l:List Nat,(l.flatMap (IJ m (a,b))).length<=l.length*300000:=by
     intro l
     induction l with
     | nil=>simp
     | cons y l ih=>
       rw[List.flatMap_cons,z5,z9,Nat.add_mul,Nat.one_mul,Nat.add_comm];refine Nat.add_le_add ih ?_;unfold IJ;rw[z8];exact zT (List.length_filter_le _ _) (wu.out y)
    refine Nat.lt_of_le_of_lt (key _) (Nat.lt_of_le_of_lt (Nat.mul_le_mul_right _ (show set.length<=1000000 by rw[<-HN.out];exact hn)) zD)
   obtain⟨Av,cv,rfl⟩:=dV.form;obtain⟨nv,FV⟩:=zF o0.length;rw[FV] at dV hv;have c7:=aO hv;have Xq:=aaA w1.heap.size o0 _ wr dV XJ;have yD:=zH Xq;have HV:=zH hv;have qC:=zH dV;have pW:=zH eF;have zY:=zH FU;have HO0:=zH Dw;have HOL:=zH XJ;clear Xq hv dV eF FU Dw XJ jo FV
   gi_wp2_with (first
    | (refine⟨trivial,?_⟩;gi_at_call 84;refine (callsIn_wide.2 yD.out).mono ?_
       rintro e w4 ⟨rfl,l',Kz,zo,Ed,CY⟩;have V4:w4.heap[w.heap.size+1+1]?=some (.cells #[.slice Av nv cv] 58):=(CY.block _ (aC HV.out) (λe=>by have:=(aS qC.out _ e).1;omega)).trans HV.out;clear c7;have c7:=aO V4;have yC:=RX w1.heap.size l' _ w4 Ed zo (by rw[Kz.length_eq];exact HOL.out);have RY:=zH yC;have zu:=zH CY;have HP:=zH Kz
       clear yC CY Kz zo Ed V4)
    | (refine⟨trivial,?_⟩;gi_at_call 85;refine (callsIn_wide.2 RY.out).mono ?_
       rintro e w5 ⟨v5,rfl,RZ,Pg,bg⟩;have HO5:=zH RZ;have HG5:=zH Pg;have BU:=zH bg
       clear RZ Pg bg))
   have Ef:ji ds w4:=zY.out.keep λD hD=>zu.out.block D (aC (zY.out.2 D hD)) (λe=>by
    obtain⟨cs,fJ⟩:=qC.out.bC e.symm
    exact zY.out.ne fJ D hD rfl)
   have PL:ji ds w5:=Ef.keep λD hD=>HG5.out.block D (aC (Ef.2 D hD)) (λe=>by
    obtain⟨cs,fJ⟩:=qC.out.bC e.symm
    exact zY.out.ne fJ D hD rfl)
   refine qc ds w5 PL λw6 uX=>?_
   have hn6:∀q,v5.ownBlock=some q->q ∉ ds:=λq hq hD=>by
    obtain⟨cs,fJ⟩:=HO5.out.bC hq;exact PL.ne fJ q hD rfl
   have Gh:sset l'=lZ m set (a,b):=by
    unfold lZ;rw[HO0.out];exact adr λx=>HP.out.mem_iff
   have ho6:ax w6 w1.heap.size 3 1 aV (lZ m set (a,b)) v5:=by
    rw[<-Gh];exact HO5.out.bu λq hq=>uX.block q (aS HO5.out q hq.symm).2 (hn6 q hq)
   have s1r:w1.heap.size<=wr.heap.size:=pW.out.size
   have dY:Bw w w6:=by
    refine⟨uX.os.trans (HG5.out.os.trans (zu.out.os.trans (pW.out.os.trans ai.os))),uX.tape.trans (HG5.out.tape.trans (zu.out.tape.trans (pW.out.tape.trans ai.tape))),uX.output.trans (HG5.out.output.trans (zu.out.output.trans (pW.out.output.trans ai.output))),?_,λq hq=>?_⟩
    ·have:=uX.size;have:=HG5.out.size;have:=zu.out.size;omega
    ·have hqd:q ∉ ds:=λhD=>Ot.out q hD hq
     have dV:∀e:some q=(Value.slice Av nv cv).ownBlock,False:=λe=>(by have:=(aS qC.out q e).1;omega);rw[uX.block q (by have:=HG5.out.size;have:=zu.out.size;omega) hqd,HG5.out.block q (by have:=zu.out.size;omega) (λe=>dV e),zu.out.block q zO (λe=>dV e),pW.out.block q zO zO,ai.block q hq]
   exact⟨v5,by simp[results,Tryz.results63,go_sem],v5,rfl,ho6.low zO,dY⟩
end Go.Proofs.YtgmnnegfndpakaaGreatDoor
