import Derived.Test.YtgmnnegfndpakaaGreatDoorH27
set_option maxHeartbeats 20000000
set_option maxRecDepth 100000
namespace Go.Proofs.YtgmnnegfndpakaaGreatDoor
open Go.RowKit Go.Proofs.Tryz
variable{F:Nat->Prop}{n g base i q q':Nat}{P:Program}{w w' W:World}{v1 v2:Value}{t:TypeId}{fr:Nat×Nat}{ds:List Nat}{cs:Array Value}{α β κ:Type}{l:List Int}{A:Option Addr}{val:β->Value}
section
attribute [local go_sem] Oper.semAt_some
theorem Jk(w:World)(base:Nat)(l:List Nat)(v:Value)(dV:ax w base 3 1 aV l v)(g c x:Nat)(hc:w.cell? g=x)(hlen:l.length<1000000000000)(eY:base<=w)(ty:TypeId):
 ∃v' w',(Builtin.append_ #[58,58] ty #[v,(g,0,1,c)]).run prog w= .ok v' w'/\ax w' base 3 1 aV (l++[x]) v'/\w.grownBy w' v.ownBlock/\(v'.ownBlock=v.ownBlock\/v'.ownBlock=some w.heap.size):=by
 obtain⟨ht,i,hi,hz,bY,nP,ry,h0,-⟩:=tyI
 obtain⟨v',w',bG,h2,h3,-,h5⟩:=run_append_own_at (P:=prog) w base 58 ty 3 i _ 1 8 ht hi hz bY nP ry h0 v _ _ dV g 1 c [x] rfl (λj u hu=>by
  cases j with
  | zero=>
    obtain rfl:(Value.int .i64 (x:Int))=u:=(by simpa using hu);simpa[Addr.add] using hc
  | succ j=>simp at hu) (by intro u hu;rw[og.1 hu];rfl) (by unfold maxLen;omega) zO eY
 refine⟨v',w',bG,?_,h3,h5⟩;unfold ax;rw[z5,l6];exact h2
theorem zt{F:Fence}{ops:Array Oper}{rest:List Oper}{o:Oper}{a:Act}{Q:Exit->Act->World->Prop}(uO:o.guard=none)(s x:Operand)(t:TypeId)
 (uQ:o.op= .call { callee:=.builtin .append,args:=#[s,x],argTypes:=#[t,t] }) {v:Value}  (hs:a.eval s=v1) (hx:a.eval x=v2) (bG:(Builtin.append_ #[t,t] o.type #[v1,v2]).run P w= .ok v w')
 (h:wpListIn F n P ops Q rest (a.put o.dst v) w'):wpListIn F n P ops Q (o::rest) a w:=by
 refine wpListIn_plain uO λK hK'=>?_;unfold Oper.wpIn;refine⟨?_,?_⟩
 ·simp[Oper.about,uQ,resolve,Target.leads,Sem.run_pure]
 rw[Oper.semAt_plain F _ _ (by rw[uQ];intro c yu;cases yu)];simp[execOp,uQ,resolve,invoke,builtin,hs,hx,bG,Result.andThen];exact hK' _ _ h
def YR(m:eQ)(s:Nat):Prop:=(m.all=[]->s<=m.places.length)/\s<1000000
theorem anu(m:eQ)(B bm g1 g2 s:Nat)(w0:World)(X:Nat->Prop)(hM:mO w0 B bm m)(fQ:mQ m)(hB:B<=w0)(h1:w0.heap[g1]?=Zc #[(bm,0)] 93)(h2:w0.heap[g2]?=Zc #[s] 3)(hX:∀q,X q->¬q<B/\g1≠q/\g2≠q)(hs:YR m s):
 ∃rl:List SC,rl.map (·.1)=gK m s/\(∀x∈rl,au w0 (· <B) (aZ x.1.leaf) x.2)/\yF prog 145 #[(g1,0),(g2,0)] EK X (· =rl) (· <+:rl) w0:=by
 by_cases dW:m.all=[]
 ·exact ann m B bm g1 g2 s w0 X hM fQ hB h1 h2 hX dW (hs.1 dW)
 exact anq m B bm g1 g2 s w0 X hM fQ hB h1 h2 hX dW hs.2
theorem Oo{m:eQ}(fQ:mQ m){s:Nat}{y:Stp}(h:y∈gK m s):xE m.elems y.leaf:=by
 unfold gK at h
 split at h
 ·obtain⟨i,_,hi⟩:=List.mem_flatMap.1 h;unfold CP at hi
  split at hi
  ·rename_i q hq;rw[og] at hi;subst hi;exact fQ.leaf i q hq
  simp at hi
 have key:∀(l:List aJ) (s i u q:Nat),(∀p∈l,xE m.elems p)->y∈qH l s i u q->xE m.elems y.leaf:=by
  intro l
  induction l with
  | nil=>intro s i u q _ h;rw[qH] at h;simp at h
  | cons p l ih=>
    intro s i u q hl h;rw[qH,z12] at h
    rcases h with h | h
    ·split at h
     ·rw[og] at h;subst h;exact hl p zP
     simp at h
    exact ih _ _ _ _ (λp hp=>hl p (by simp[hp])) h
 exact key m.all s 0 1 s (λp hp=>(fQ.all p hp).1) h
theorem KA{v0 v3 v4 v5 v6 v7 v8 v9 v10 v11 v12 v13:Value}(h:w.heap[g]?=some (.cells #[v0,v1,v2,v3,v4,v5,v6,v7,v8,v9,v10,v11,v12,v13] t fr)):
 w.cell? g=v0/\w.cell? (g,1)=v1/\w.cell? (g,2)=v2/\w.cell? (g,3)=v3/\w.cell? (g,4)=v4/\w.cell? (g,5)=v5/\w.cell? (g,6)=v6/\w.cell? (g,7)=v7/\w.cell? (g,8)=v8/\w.cell? (g,9)=v9/\w.cell? (g,10)=v10/\w.cell? (g,11)=v11/\w.cell? (g,12)=v12/\w.cell? (g,13)=v13:=by
 refine⟨?_,?_,?_,?_,?_,?_,?_,?_,?_,?_,?_,?_,?_,?_⟩<;>rw[Ys w g _ _ _ _ h]<;>rfl
def abp(D:Nat):Deferred:={ target:=.collected D,args:=#[] }
def ji(ds:List Nat)(w:World):Prop:=ds.Nodup/\∀D∈ds,w.heap[D]?=some (.deferred (some []))
theorem ji.keep(h:ji ds w)(hk:∀D∈ds,w'.heap[D]?=w.heap[D]?):ji ds w':=⟨h.1,λD hD=>(hk D hD).trans (h.2 D hD)⟩
theorem ji.below(h:ji ds w)(hb:Bw w w'):ji ds w':=h.keep λD hD=>hb.block D (aC (h.2 D hD))
theorem ji.ne(h:ji ds w)(hg:w.heap[g]?=some (.cells cs t fr)):∀D∈ds,D≠g:=λD hD e=>by
 have:=h.2 D hD;rw[e,hg] at this;cases this
theorem ax.bC{e:TypeId}{sz:Nat}{cells:α->List Value}{l:List α}{v:Value}(h:ax w base e sz cells l v){k:Nat}(hk:v.ownBlock=k):∃cs,w.heap[k]?=some (.cells cs e (0,0)):=by
 rcases h.2 with ⟨rfl,_⟩ | ⟨g,cap,cur,rfl,_,hh,_⟩
 ·cases hk
 cases hk;exact⟨cur,hh⟩
theorem qc{F:Fence}{fn:Func}{tmps:Array Value}{R:Ending->World->Prop}:∀(ds:List Nat) (w:World),ji ds w->(∀w',Kept (λq=>q∈ds) w w'->LeavesInM F n P fn tmps R [] .returning w')->LeavesInM F n P fn tmps R (ds.map abp) .returning w
 | [],w,_,h=>h w (Kept.refl _ _)
 | D::ds,w,h,hR=>by
   rw[Jm];have AX:=List.nodup_cons.1 h.1;refine⟨zP,.inl ⟨D,_,rfl,run_takeDeferred (h.2 D zP),?_⟩⟩;have hk:Kept (λq=>q=D) w (w.putObj D (.deferred none)):=dF _ _ _ rfl;refine qc ds _ ⟨AX.2,λE hE=>?_⟩ λw' fM=>hR w' ((fE hk λq e=>by rw[e];simp).trans (fE fM λq e=>by simp[e]));exact bF (h.2 E (by simp[hE])) hk (λe=>AX.1 (e ▸ hE))
theorem adr{l l':List Nat}(h:∀x,x∈l↔x∈l'):sset l=sset l':=WG (qW _) (qW _) λx=>by rw[wI,wI,h]
structure Ha where
 k:Int
 mn:Int
 mx:Int
 el:Int
 ck:Int
 ns:ByteArray
 nl:ByteArray
 sp:ByteArray
 A1:Option Addr
 n1:Nat
 c1:Nat
 A2:Option Addr
 n2:Nat
 c2:Nat
 pr:Int
 A:Option Addr
 n:Nat
 c:Nat
def Ha.cells(p:Ha):List Value:=[p.k,p.mn,p.mx,p.el,p.ck,p.ns,p.nl,p.sp,(p.A1,p.n1,p.c1),(p.A2,p.n2,p.c2),p.pr,(p.A,p.n,p.c)]
abbrev SP:=Stp×Ha
def UO(x:SP):SC:=(x.1,x.2.cells)
def spE(x:SP):Array Value:=EK (UO x)
theorem yF.map{lb:Array Value}{encs:α->Array Value}{X:Nat->Prop}{w0:World}(f:β->α){rl:List β}(h:yF P g lb encs X (· =rl.map f) (· <+:rl.map f) w0):yF P g lb (λx=>encs (f x)) X (· =rl) (· <+:rl) w0:=by
 intro n l J Jx W hk h1 hY hJ;refine (h n l (λpre A=>pre<+:rl.map f/\J (rl.take pre.length) A) (λpre A=>pre<+:rl.map f/\Jx (rl.take pre.length) A) W hk (λpre A B h hs hb=>⟨h.1,h1 _ A B h.2 hs hb⟩) ?_ ⟨List.nil_prefix,by simpa using hJ⟩).mono ?_
 ·rintro m pre x A ⟨hp,hJ⟩ mM hs;obtain⟨t,ht⟩:=mM
  have hlen:pre.length<rl.length:=by
   have:=congrArg List.length ht;simp at this;omega
  have hx:f rl[pre.length]=x:=by
   have h2:=congrArg (λl=>l[pre.length]?) ht;simp only[d7,z21 (zR _),Nat.sub_self,List.singleton_append,List.getElem?_cons_zero,z17,z6 hlen,Option.map_some,l5] at h2;exact h2.symm
  have Xt:rl.take (pre++[x]).length=rl.take pre.length++[rl[pre.length]]:=by
   rw[z5,TQ,List.take_add_one,z6 hlen,Option.toList_some]
  have Gn:rl.take pre.length++[rl[pre.length]]<+:rl:=(by rw[<-Xt];exact List.take_prefix _ _);obtain⟨fn,tm,asg,bo,h3,h4⟩:=hY m _ _ A hJ Gn hs;dsimp only at h3;rw[hx] at h3;refine⟨fn,tm,asg,bo,h3,h4.mono ?_⟩;rintro e B (⟨he,h5,h6⟩ | ⟨he,h5⟩)
  ·exact .inl ⟨he,⟨⟨t,ht⟩,by rw[Xt];exact h5⟩,h6⟩
  exact .inr ⟨he,⟨t,ht⟩,by rw[Xt];exact h5⟩
 rintro e B ⟨hv,(⟨xs,rfl,-,h2⟩ | ⟨pre,-,hp,h2⟩)⟩
 ·refine⟨hv,.inl ⟨rl,rfl,?_⟩⟩;rwa [z8,List.take_length] at h2
 exact⟨hv,.inr ⟨_,List.take_prefix _ _,h2⟩⟩
theorem agz(m:eQ)(B bm g1 g2 s:Nat)(w0:World)(X:Nat->Prop)(hM:mO w0 B bm m)(fQ:mQ m)(hB:B<=w0)(h1:w0.heap[g1]?=Zc #[(bm,0)] 93)(h2:w0.heap[g2]?=Zc #[s] 3)(hX:∀q,X q->¬q<B/\g1≠q/\g2≠q)(hs:YR m s):
 ∃rl:List SP,rl.map (·.1)=gK m s/\(∀x∈rl,au w0 (· <B) (aZ x.1.leaf) x.2.cells)/\yF prog 145 #[(g1,0),(g2,0)] spE X (· =rl) (· <+:rl) w0:=by
 obtain⟨rl,h3,h4,h5⟩:=anu m B bm g1 g2 s w0 X hM fQ hB h1 h2 hX hs
 have key:∀l:List SC,(∀x∈l,au w0 (· <B) (aZ x.1.leaf) x.2)->∃l':List SP,l'.map UO=l:=by
  intro l
  induction l with
  | nil=>exact λ_=>⟨[],rfl⟩
  | cons x l ih=>
    intro h;obtain⟨l',rfl⟩:=ih λy hy=>h y (by simp[hy]);obtain⟨k,mn,mx,el,ck,ns,nl,sp,A1,n1,c1,A2,n2,c2,pr,A,n,c,e,-⟩:=aW (h x zP);exact⟨(x.1,⟨k,mn,mx,el,ck,ns,nl,sp,A1,n1,c1,A2,n2,c2,pr,A,n,c⟩)::l',by rw[Jm];congr 1;exact Prod.ext rfl e.symm⟩
 obtain⟨rl',rfl⟩:=key rl h4;refine⟨rl',by rw[<-h3,List.map_map];rfl,λx hx=>h4 (UO x) (List.mem_map_of_mem hx),?_⟩;exact yF.map UO h5
theorem Dv(m:eQ)(B bm:Nat)(set:List Nat)(A:Option Addr)(n c:Nat)(a b:ByteArray)(w:World)(hM:mO w B bm m)(fQ:mQ m)(hB:B<=w)(aI:aY w (· <w) 1 aV set A n)(hn:n<=1000000)(bZ:∀s∈set,YR m s)(uw:∀s,(gK m s).length<=300000):
 Cl 63 #[(bm,0),(A,n,c),.agg #[a,b]] w λe w'=>∃v,e= .returned v/\ax w' w 3 1 aV (lZ m set (a,b)) v/\Bw w w':=by
 obtain⟨w1,bI,S1,S2,S3,nC,ai⟩:=rD w (Zc #[(bm,0)] 93) (Zc #[a,b] 23) (Zc #[()] 58);have e1:w1=w.heap.size+1+1+1:=(by rw[<-bI];simp);obtain⟨aQ,gY,vC,HM,jr,lM,sV,wu⟩:=zJ8 S1 S2 S3 hM fQ aI bZ uw;have HN:=zH aI.1;clear S1 S2 S3 hM fQ aI bZ uw;refine (t6 (n:=3)).1 ?_;refine callsIn_of_wp_marks func63 rfl trivial ?_ rfl;simp only[ntmps63,YV,z9,z24,Nat.reduceAdd,Nat.reduceSub,Ze,Zd,List.push_toArray,ZD,d6,m7];gi_wp2
 refine wpIn_loop (λa' wr=>∃(u9 u10 u14 u15 u16 u17 u18 u19 u21 u22 u23 u24 u25 u26 u27 u28 u29 u30 u31:Value) (ds:List Nat) (k:Nat) (v:Value),(k<=n/\wr.heap[w.heap.size+1+1]?=Zc #[v] 58/\ax wr w1 3 1 aV ((set.take k).flatMap (IJ m (a,b))) v/\Kept (λq=>q=w+1+1\/w1<=q) w1 wr/\ji ds wr/\∀D∈ds,¬D<w)/\
  a'={ tmps:=#[.pointer (some ⟨bm,0,none⟩),.slice A n c,.agg #[.string a,.string b],.pointer (some ⟨w,0,none⟩),undef,.pointer (some ⟨w.heap.size+1,0,none⟩),.slice none 0 0,.pointer (some ⟨w.heap.size+1+1,0,none⟩),undef,u9,u10,.slice A n c,.int .i64 n,.int .i64 k,u14,u15,u16,u17,u18,u19,undef,u21,u22,u23,u24,u25,u26,u27,u28,u29,u30,u31,undef,undef,undef,undef],defers:=ds.map abp })
  (λa' _=>n - (intOf (a'.tmps.getD 13 undef)).toNat) ?start ?round
 case start=>exact⟨_,_,_,_,_,_,_,_,_,_,_,_,_,_,_,_,_,_,_,[],0,_,⟨zO,vC,ax.nil _ _ _ _ _,Kept.refl _ _,⟨List.nodup_nil,λD h=>(by simp at h)⟩,λD h=>(by simp at h)⟩,rfl⟩
 rintro _ wr ⟨u9,u10,u14,u15,u16,u17,u18,u19,u21,u22,u23,u24,u25,u26,u27,u28,u29,u30,u31,ds,k,v,⟨hk,hv,dV,eF,FU,Oq⟩,rfl⟩;have Ot:=zH Oq;clear Oq;(try dsimp only);by_cases aN:k<n
 ·have jV:=zT1 (k<n);have iO:∀q,q<w.heap.size->wr.heap[q]?=w.heap[q]?:=λq h=>(eF.block q zO zO).trans (ai.block q h);have CE:aY wr (· <w) 1 aV set A n:=lM.keep λq h=>⟨h,iO q h⟩;obtain⟨sb,so,s,yD,jw,dO⟩:=CE.nat aN c;have T1:=bF aQ eF zO;have T2:=bF gY eF zO;obtain⟨d1,d2,gW,fC,HV,qC,pW,ads⟩:=zK8 (aO T1) (dw T2) (zH T1) (zH T2) (zH hv) (zH dV) (zH eF) (zH iO);have zY:=zH FU;clear T1 T2 hv dV eF CE iO FU
  gi_wp2_with (refine⟨trivial,?_⟩;gi_at_call 82;refine (t6.2 (RU bm s wr)).mono ?_;rintro e w4 ⟨rfl,U1,U2,e4,aX⟩)
  have hBr:Below B w wr:=(ai.mono hB).trans (pW.below zO zO);have TP:Below B w w4:=hBr.trans (aX.mono (by have:=pW.size;omega));have s1r:w1.heap.size<=wr:=pW.size;have Ea:mO w4 B bm m:=HM.below TP;obtain⟨rl,AU,kP,yQ⟩:=agz m B bm wr (wr.heap.size+1) s w4 (λq=>w<=q/\q<wr) Ea jr zO U1 U2 (λq hq=>by omega) (sV s (SK yD));obtain⟨BR,HRC,GZ,HB4⟩:=zJ4 AU kP Ea TP;have hlen:rl.length<=300000:=(by rw[<-z8 (f:=(·.1)),AU];exact wu s);have pR:=zH hlen;obtain⟨o0,Dw⟩:=zF ((set.take k).flatMap (IJ m (a,b)));rw[Dw] at qC
  have XJ:o0.length<=k*300000:=by
   rw[<-Dw]
   have key:∀l:List Nat,(l.flatMap (IJ m (a,b))).length<=l.length*300000:=by
    intro l
    induction l with
    | nil=>simp
    | cons y l ih=>
      rw[l4,z5,z9,Nat.add_mul,Nat.one_mul,Nat.add_comm];refine Nat.add_le_add ih ?_;unfold IJ;rw[z8];exact zT (List.length_filter_le _ _) (wu y)
   refine zT (key _) (Nat.mul_le_mul_right _ ?_);rw[Ju];omega
  have adt:o0.length+300000<1000000000000:=by
   have h1:k*300000<=1000000*300000:=Nat.mul_le_mul_right _ zO;omega
  obtain⟨HO0,HOL⟩:=zJ2 Dw adt;clear AU kP Ea TP hlen Dw XJ adt U1 U2 d1 d2 jw
  refine Lp (gf:=145) (lb:=#[.pointer (some ⟨wr,0,none⟩),.pointer (some ⟨wr.heap.size+1,0,none⟩)]) rfl (enters_of func145 zK rfl) yQ (Kept.refl _ _) (λq hq=>by omega) (λ_=>rfl)
   (λpre W=>∃v,W.heap[w.heap.size+1+1]?=some (.cells #[v] 58)/\ax W w1 3 1 aV (o0++(pre.filter λx=>Gf m.elems x.1.leaf (a,b)).map (·.1.dst)) v/\(∀q,v.ownBlock=some q->q<wr.heap.size\/w4.heap.size+2<=q)/\Kept (λq=>q=w.heap.size+1+1\/w1.heap.size<=q) w1 W/\ji ds W)
   (λ_ _ _=>False) ?hI ?hL (λ_ _ _ _ h=>h.elim) ?h0
   (λx W=>{ tmps:=#[.pointer (some ⟨bm,0,none⟩),.slice A n c,.agg #[.string a,.string b],.pointer (some ⟨w,0,none⟩),undef,.pointer (some ⟨w.heap.size+1,0,none⟩),.slice none 0 0,.pointer (some ⟨w.heap.size+1+1,0,none⟩),undef,.int .i64 s,.pointer (some ⟨W,0,none⟩),.slice A n c,.int .i64 n,.int .i64 k,.bool true,.pointer (some ⟨sb,so+k,none⟩),.int .i64 s,.pointer (some ⟨bm,0,none⟩),.int .i64 s,.func (.func 145) #[] #[.pointer (some ⟨wr,0,none⟩),.pointer (some ⟨wr.heap.size+1,0,none⟩)],.agg #[.int .i64 x.1.dst,.int .i64 x.1.num,.int .i64 x.2.k,.int .i64 x.2.mn,.int .i64 x.2.mx,.int .i64 x.2.el,.int .i64 x.2.ck,.string x.2.ns,.string x.2.nl,.string x.2.sp,.slice x.2.A1 x.2.n1 x.2.c1,.slice x.2.A2 x.2.n2 x.2.c2,.int .i64 x.2.pr,.slice x.2.A x.2.n x.2.c],u21,u22,u23,u24,u25,u26,u27,u28,u29,u30,u31,undef,undef,undef,undef],defers:=[] })
   (λx W=>W.alloc (Zc #[x.1.dst,x.1.num,x.2.k,x.2.mn,x.2.mx,x.2.el,x.2.ck,x.2.ns,x.2.nl,x.2.sp,(x.2.A1,x.2.n1,x.2.c1),(x.2.A2,x.2.n2,x.2.c2),x.2.pr,(x.2.A,x.2.n,x.2.c)] 139)) (λ_ W=>(j9 _ _).alloc (zR _) _) ?assign ?body ?done (λ_ _ _ _ h=>h.elim)
  case hI=>
   rintro pre A' B' ⟨v,h1,h2,h3,h4,h5⟩ _ hb;exact⟨v,ae h1 hb,h2.bu λq hq=>hb.block q (aS h2 q hq.symm).2,h3,h4.trans (Qh hb),h5.below hb⟩
  case hL=>
   rintro pre A' B' ⟨v,h1,h2,h3,h4,h5⟩ _ fM;exact⟨v,bF h1 fM zO,h2.bu λq hq=>fM.block q (aS h2 q hq.symm).2 (by have:=h3 q hq;omega),h3,h4.trans (fE fM λq hq=>by omega),h5.keep λD hD=>fM.block D (aC (h5.2 D hD)) (by have:=aC (zY.2 D hD);omega)⟩
  case h0=>
   intro W mV _;have hb:=aX.seq mV;refine⟨v,ae HV hb,?_,λq hq=>.inl (aS qC q hq.symm).2,pW.trans (Qh hb),zY.below hb⟩;rw[List.filter_nil,List.map_nil,m8];exact qC.bu λq hq=>hb.block q (aS qC q hq.symm).2
  case assign=>
   intro mm l x W K hK;simp only[spE,UO,EK,Ha.cells,m7,d6];gi_wp2;exact hK
  case body=>
   rintro mm l pre ⟨y,⟨kx,gU,gz,gZ,ig,ik,iq,iw,iy,iC,iD,iE,iF,iG,iH,Ax,nx,cx⟩⟩ W W2 ⟨v',h1,h2,h3,h4,h5⟩ mM o8 hkW;have XC:(W.alloc (Zc #[y.dst,y.num,kx,gU,gz,gZ,ig,ik,iq,iw,(iy,iC,iD),(iE,iF,iG),iH,(Ax,nx,cx)] 139)).heap.size=W.heap.size+1:=zS4;have hW2:W.heap.size+1<=W2:=(by rw[<-XC];exact hkW.size);have S9:W2.heap[W.heap.size]?=Zc #[y.dst,y.num,kx,gU,gz,gZ,ig,ik,iq,iw,(iy,iC,iD),(iE,iF,iG),iH,(Ax,nx,cx)] 139:=bF (heap_alloc_new W _) hkW zO;obtain⟨x0,x1,x2,x3,x4,x5,x6,x7,x8,x9,yM,yN,x12,x13⟩:=KA S9;have hlW:∀q,q<w1.heap.size->q≠w.heap.size+1+1->W2.heap[q]?=w1.heap[q]?:=λq hq dD=>h4.block q hq zO;have T1:=(hlW _ zO zO).trans aQ;have T2:=(hlW _ zO zO).trans gY;have d1:=aO T1;have d2:=dw T2;have jb:(y,(⟨kx,gU,gz,gZ,ig,ik,iq,iw,iy,iC,iD,iE,iF,iG,iH,Ax,nx,cx⟩:Ha))∈rl:=mM.subset zP;have hBW:Below B w W2:=(ai.mono hB).trans (h4.below zO zO);have iO:∀q,q<B->W2.heap[q]?=w4.heap[q]?:=λq hq=>(hBW.block q hq).trans (HB4.block q hq).symm;have bH:au W2 (· <B) (aZ y.leaf) [kx,gU,gz,gZ,ig,ik,iq,iw,(iy,iC,iD),(iE,iF,iG),iH,(Ax,nx,cx)]:=(HRC _ jb).keep λq hq=>⟨hq,iO q hq⟩;have KC:xE m.elems y.leaf:=Oo jr (s:=s) (by rw[<-BR.out];exact List.mem_map_of_mem (f:=(·.1)) jb);obtain⟨av,D6⟩:=zF (Gf m.elems y.leaf (a,b))
   have at7:Hid (Rt 132 #[(bm,0),.agg (o5 kx gU gz gZ ig ik iq iw iy iC iD iE iF iG iH Ax nx cx),.agg #[a,b]] W2 av):=zH (by
    have h:=afd m B bm y.leaf _ a b W2 (HM.below hBW) (by have:=hBW.size;omega) bH KC
    rw[D6] at h;exact h)
   have adw:(pre++[(y,(⟨kx,gU,gz,gZ,ig,ik,iq,iw,iy,iC,iD,iE,iF,iG,iH,Ax,nx,cx⟩:Ha))]).filter (λx=>Gf m.elems x.1.leaf (a,b))=pre.filter (λx=>Gf m.elems x.1.leaf (a,b))++(if av=true then [(y,(⟨kx,gU,gz,gZ,ig,ik,iq,iw,iy,iC,iD,iE,iF,iG,iH,Ax,nx,cx⟩:Ha))] else []):=by
    rw[List.filter_append]
    congr 1
    rw[<-D6];simp only[List.filter_cons,List.filter_nil]
   obtain⟨o1,uz⟩:=zF (o0++(pre.filter λx=>Gf m.elems x.1.leaf (a,b)).map (·.1.dst));rw[uz] at h2
   have adx:o1.length<1000000000000:=by
    have h5:(pre.filter λx=>Gf m.elems x.1.leaf (a,b)).length<=pre.length:=List.length_filter_le _ _;have h6:pre.length<=rl.length:=(by have:=mM.length_le;rw[z5] at this;omega);have h7:=pR.out;have h8:=HOL.out;rw[<-uz,z5,z8];omega
   obtain⟨ady,DY,anv,H1,H2,H3,H4,XD⟩:=zJ8 adw uz adx h1 h2 h3 h4 S9;have H5:=zH h5;clear h5 adw uz adx h1 h2 h3 h4 D6 bH KC jb mM iO hBW hlW T1 T2 S9 hkW XC;cases av
   ·gi_wp2_with (refine⟨trivial,(λh=>by cases h),?_⟩;gi_at_call 132;refine ((t6.2 at7).inRound l).mono ?_;rintro e w7 ⟨rfl,eP⟩)
    refine⟨Qh eP,v',ae H1 eP,?_,H3,H4.trans (Qh eP),H5.below eP⟩;rw[ady.out];simp only[b6,if_false,m8];rw[DY.out];exact H2.bu λq hq=>eP.block q (aS H2 q hq.symm).2
   gi_wp2_with (first
    | (refine⟨trivial,(λh=>by cases h),?_⟩;gi_at_call 132;refine ((t6.2 at7).inRound l).mono ?_;rintro e w7 ⟨rfl,eP⟩
       have V7:=ae H1 eP;have c7:=aO V7;clear x0 x1 x2 x3 x4 x5 x6 x7 x8 x9 yM yN x12 x13;obtain⟨x0,-⟩:=KA (ae XD eP);obtain⟨w8,Kt,S8,hs8,eX⟩:=af w7 (Zc #[y.dst] 3);have dY:=eP.seq eX;have XK:ax w8 w1 3 1 aV o1 v':=H2.bu λq hq=>dY.block q (aS H2 q hq.symm).2;have s78:W2.heap.size<=w8:=dY.size;obtain⟨v2,w9,bG,zq,rQ,FQ⟩:=Jk w8 w1 o1 v' XK w7 1 y.dst (aO S8) anv zO 58;obtain⟨B2,b2,rfl⟩:=zq.form;obtain⟨nb,gX⟩:=zF ((o1++[y.dst]).length);rw[gX] at bG zq FQ;have V9:w9.heap[w.heap.size+1+1]?=Zc #[v'] 58:=(rQ.block _ (by have:=aC V7;omega) (λe=>by have:=(aS H2 _ e).1;omega)).trans (ae V7 eX);obtain⟨c9,f9,qB,HO9,sD,HK9,HV9,Eh⟩:=zK8 (aO V9) (k8 w9 (w.heap.size+1+1) 0 _ _ V9) (zH bG) (zH zq) (zH rQ) (zH FQ) (zH V9) (zH dY);have HSW:=zH s78
       clear gX bG zq rQ FQ V9 V7 dY XK s78 S8)
    | (refine zt rfl (.tmp 26) (.tmp 29) 58 rfl rfl rfl qB ?_))
   have ahQ:Kept (λq=>(w<=q/\q<wr)\/w4+2<=q) W2 (w9.setCell (w.heap.size+1+1,0) (B2,nb,b2)):=by
    have k1:Kept (λq=>(w<=q/\q<wr)\/w4+2<=q) W2 w8:=Qh Eh
    have k2:Kept (λq=>(w<=q/\q<wr)\/w4+2<=q) w8 w9:=⟨sD.os,sD.tape,sD.output,sD.size,λq hq hn=>sD.block q hq (λe=>by
     have h5:=(aS H2 q e).1
     rcases H3 q e.symm with h6 | h6
     ·exact hn (.inl ⟨zO,h6⟩)
     exact hn (.inr h6))⟩
    exact(k1.trans k2).setCell (p:=⟨w.heap.size+1+1,0,none⟩) (.inl (.inl ⟨by show w.heap.size<=w+1+1;omega,by show w.heap.size+1+1<wr;omega⟩)) _
   have dD:∀q,(Value.slice B2 nb b2).ownBlock=some q->w1.heap.size<=q/\(q<wr.heap.size\/w4.heap.size+2<=q):=λq hq=>by
    rcases HK9.out with h5 | h5
    ·have h6:=h5.symm.trans hq;exact⟨(aS H2 q h6.symm).1,H3 q h6⟩
    have h6:=zI (h5.symm.trans hq);have:=HSW.out;exact⟨zO,.inr zO⟩
   have jl:Kept (λq=>q=w.heap.size+1+1\/w1.heap.size<=q) w1 (w9.setCell (w.heap.size+1+1,0) (B2,nb,b2)):=by
    have k2:Kept (λq=>q=w.heap.size+1+1\/w1.heap.size<=q) w8 w9:=⟨sD.os,sD.tape,sD.output,sD.size,λq hq hn=>sD.block q hq (λe=>hn (.inr (aS H2 q e).1))⟩;exact((H4.trans (Qh Eh)).trans k2).setCell (p:=⟨w.heap.size+1+1,0,none⟩) (.inl (.inl rfl)) _
   have PL:ji ds w9:=(H5.below Eh).keep λD hD=>sD.block D (aC ((H5.below Eh).2 D hD)) (λe=>by
    obtain⟨cs,fJ⟩:=H2.bC e.symm
    exact H5.ne fJ D hD rfl)
   have hd6:ji ds (w9.setCell (w.heap.size+1+1,0) (B2,nb,b2)):=PL.keep λD hD=>gq (PL.ne HV9 D hD);refine⟨ahQ,_,bD HV9,?_,λq hq=>(dD q hq).2,jl,hd6⟩;rw[ady.out];simp only[if_true,Qb,Jm,List.map_nil,<-d7];rw[DY.out];exact HO9.bu λq hq=>gq (by have:=dD q hq;omega)
  case done=>
   rintro xs W rfl ⟨v',h1,h2,h3,h4,h5⟩ hK
   have XL:ji (w4.heap.size::ds) W:=⟨List.nodup_cons.2 ⟨λh=>by have:=aC (zY.2 _ h);omega,h5.1⟩,λD hD=>by
    rcases TT.1 hD with rfl | hD
    ·exact hK
    exact h5.2 D hD⟩
   have jC:(set.take (k+1)).flatMap (IJ m (a,b))=o0++(xs.filter λx=>Gf m.elems x.1.leaf (a,b)).map (·.1.dst):=by
    rw[List.take_add_one,yD.out,Option.toList_some,l6,List.flatMap_singleton,HO0.out]
    congr 1
    unfold IJ;rw[<-BR.out,List.filter_map,List.map_map];rfl
   obtain⟨Ky,H1,H2,H4,HDS⟩:=zJ5 jC h1 h2 h4 XL;clear h1 h2 h3 h4 h5 hK XL jC;(try simp only[Exit.inBlock,Exit.then]);gi_wp2
   refine⟨⟨_,_,_,_,_,_,_,_,_,_,_,_,_,_,_,_,_,_,_,w4.heap.size::ds,k+1,v',⟨zO,H1,by rw[Ky.out];exact H2,H4.out,HDS.out,λD hD=>by
    rcases TT.1 hD with rfl | hD
    ·omega
    exact Ot D hD⟩,rfl⟩,?_⟩
   simp[intOf];omega
 obtain rfl:k=n:=zO;have jV:=zT2 (k<k);have jo:set.take k=set:=l8 (by rw[<-HN.out];exact zR _);rw[jo] at dV;obtain⟨o0,Dw⟩:=zF (set.flatMap (IJ m (a,b)));rw[Dw] at dV
 have XJ:o0.length<1000000000000:=by
  rw[<-Dw]
  have key:∀l:List Nat,(l.flatMap (IJ m (a,b))).length<=l.length*300000:=by
   intro l
   induction l with
   | nil=>simp
   | cons y l ih=>
     rw[l4,z5,z9,Nat.add_mul,Nat.one_mul,Nat.add_comm];refine Nat.add_le_add ih ?_;unfold IJ;rw[z8];exact zT (List.length_filter_le _ _) (wu y)
  refine Qe (key _) (Qe (Nat.mul_le_mul_right _ (show set.length<=1000000 by rw[<-HN.out];exact hn)) zD)
 obtain⟨Av,cv,rfl⟩:=dV.form;obtain⟨nv,FV⟩:=zF o0.length;rw[FV] at dV hv;have c7:=aO hv;have Xq:=aaA w1 o0 _ wr dV XJ;obtain⟨yD,HV,qC,pW,zY,HO0,HOL⟩:=zJ7 Xq hv dV eF FU Dw XJ;clear Xq hv dV eF FU Dw XJ jo FV
 gi_wp2_with (first
  | (refine⟨trivial,?_⟩;gi_at_call 84;refine (t6.2 yD).mono ?_
     rintro e w4 ⟨rfl,l',Kz,zo,Ed,CY⟩;have V4:w4.heap[w.heap.size+1+1]?=Zc #[(Av,nv,cv)] 58:=(CY.block _ (aC HV) (λe=>by have:=(aS qC _ e).1;omega)).trans HV;clear c7;have c7:=aO V4;have yC:=RX w1 l' _ w4 Ed zo (by rw[Kz.length_eq];exact HOL);obtain⟨RY,zu,HP⟩:=zJ3 yC CY Kz
     clear yC CY Kz zo Ed V4)
  | (refine⟨trivial,?_⟩;gi_at_call 85;refine (t6.2 RY).mono ?_
     rintro e w5 ⟨v5,rfl,RZ,Pg,bg⟩;obtain⟨HO5,HG5,BU⟩:=zJ3 RZ Pg bg
     clear RZ Pg bg))
 have Ef:ji ds w4:=zY.keep λD hD=>zu.block D (aC (zY.2 D hD)) (λe=>by
  obtain⟨cs,fJ⟩:=qC.bC e.symm
  exact zY.ne fJ D hD rfl)
 have PL:ji ds w5:=Ef.keep λD hD=>HG5.block D (aC (Ef.2 D hD)) (λe=>by
  obtain⟨cs,fJ⟩:=qC.bC e.symm
  exact zY.ne fJ D hD rfl)
 refine qc ds w5 PL λw6 uX=>?_
 have hn6:∀q,v5.ownBlock=some q->q ∉ ds:=λq hq hD=>by
  obtain⟨cs,fJ⟩:=HO5.bC hq;exact PL.ne fJ q hD rfl
 have Gh:sset l'=lZ m set (a,b):=by
  unfold lZ;rw[HO0.out];exact adr λx=>HP.mem_iff
 have ho6:ax w6 w1 3 1 aV (lZ m set (a,b)) v5:=by
  rw[<-Gh];exact HO5.bu λq hq=>uX.block q (aS HO5 q hq.symm).2 (hn6 q hq)
 have s1r:w1.heap.size<=wr:=pW.size
 have dY:Bw w w6:=by
  refine⟨uX.os.trans (HG5.os.trans (zu.os.trans (pW.os.trans ai.os))),uX.tape.trans (HG5.tape.trans (zu.tape.trans (pW.tape.trans ai.tape))),uX.output.trans (HG5.output.trans (zu.output.trans (pW.output.trans ai.output))),?_,λq hq=>?_⟩
  ·have:=uX.size;have:=HG5.size;have:=zu.size;omega
  have hqd:q ∉ ds:=λhD=>Ot q hD hq;have dV:∀e:some q=(Value.slice Av nv cv).ownBlock,False:=λe=>(by have:=(aS qC q e).1;omega);rw[uX.block q (by have:=HG5.size;have:=zu.size;omega) hqd,HG5.block q (by have:=zu.size;omega) (λe=>dV e),zu.block q zO (λe=>dV e),pW.block q zO zO,ai.block q hq]
 exact⟨v5,by simp[results,results63,go_sem],v5,rfl,ho6.low zO,dY⟩
end
structure Hdr where
 A:Option Addr
 n:Nat
 c:Nat
def Hdr.v(h:Hdr):Value:=(h.A,h.n,h.c)
def zx(h:Hdr):List Value:=[h.v]
theorem YS(h:Hdr):(zx h).length=1:=rfl
theorem aud:(prog.info? 58).map (λi=>(i.zero,i.size,i.bytes))=some (some (.slice none 0 0),1,24):=by kernel_rfl
theorem tyH:rC prog 49 58 () 1 24:=sU zK aud zK zD zD
def qf(n:Int):List Value:=[n]
theorem MG(n:Int):(qf n).length=1:=rfl
theorem VN(w:World)(base:Nat)(l:List Hdr)(v:Value)(dV:ax w base 58 1 zx l v)(g c:Nat)(x:Hdr)(hc:w.cell? g=x.v)(hlen:l.length<1000000000)(eY:base<=w)(ty:TypeId):
 ∃v' w',(Builtin.append_ #[49,49] ty #[v,(g,0,1,c)]).run prog w= .ok v' w'/\ax w' base 58 1 zx (l++[x]) v'/\w.grownBy w' v.ownBlock/\(v'.ownBlock=v.ownBlock\/v'.ownBlock=some w.heap.size):=by
 obtain⟨ht,i,hi,hz,bY,nP,ry,h0,-⟩:=tyH
 obtain⟨v',w',bG,h2,h3,-,h5⟩:=run_append_own_at (P:=prog) w base 49 ty 58 i _ 1 24 ht hi hz bY nP ry h0 v _ _ dV g 1 c (zx x) rfl (λj u hu=>by
  cases j with
  | zero=>
    obtain rfl:x.v=u:=(by simpa[zx] using hu);simpa[Addr.add] using hc
  | succ j=>simp[zx] at hu) (by intro u hu;simp only[zx,og] at hu;rw[hu];rfl) (by unfold maxLen;omega) zO eY
 refine⟨v',w',bG,?_,h3,h5⟩;unfold ax;rw[z5,l6];simpa using h2
theorem aY.hdr{l:List Hdr}(h:aY w F 1 zx l A n)(hi:i<n)(c:Nat):
 ∃b off x,Hid (l[i]?=some x)/\w.cell? ⟨b,off+i,none⟩=some x.v/\∀W,(Instr.indexAt 49 (A,n,c) i).run prog W= .ok (.pointer (some ⟨b,off+i,none⟩)) W:=by
 obtain⟨b,off,hA,_,hc⟩:=h.2 (by rw[<-h.1];omega);have hx:l[i]?=l[i]'(by rw[<-h.1];exact hi):=z6 _;have h1:=hc i _ hx 0 _ rfl;rw[Nat.mul_one,Qf] at h1;refine⟨b,off,_,zH hx,h1,λW=>?_⟩;have e:=dN (P:=prog) 49 58 1 underlying49 (λw=>by kernel_rfl) hA n c i hi W;rw[Nat.mul_one] at e;exact e
theorem aY.int(h:aY w F 1 qf l A n)(hi:i<n)(c:Nat):
 ∃b off x,Hid (l[i]?=some x)/\w.cell? ⟨b,off+i,none⟩=some (.int .i64 x)/\∀W,(Instr.indexAt 58 (A,n,c) i).run prog W= .ok (.pointer (some ⟨b,off+i,none⟩)) W:=by
 obtain⟨b,off,hA,_,hc⟩:=h.2 (by rw[<-h.1];omega);have hx:l[i]?=l[i]'(by rw[<-h.1];exact hi):=z6 _;have h1:=hc i _ hx 0 _ rfl;rw[Nat.mul_one,Qf] at h1;refine⟨b,off,_,zH hx,h1,λW=>?_⟩;have e:=dN (P:=prog) 58 3 1 underlying58 (λw=>by kernel_rfl) hA n c i hi W;rw[Nat.mul_one] at e;exact e
theorem ax.setInt{v:Value}(h:ax w base 3 1 qf l v)(hi:i<l.length)(x:Int):
 ∃g cap,v= .slice (some ⟨g,0,none⟩) l.length cap/\base<=g/\g<w.heap.size/\v.ownBlock=some g/\w.frozen? ⟨g,i,none⟩=false/\(∃u,w.cell? ⟨g,i,none⟩=some u)/\
  (∀W,(Instr.indexAt 58 v i).run prog W= .ok (.pointer (some ⟨g,i,none⟩)) W)/\ax (w.setCell ⟨g,i,none⟩ x) base 3 1 qf (l.set i x) v:=by
 rcases h.2 with ⟨_,hn⟩ | ⟨g,cap,cur,rfl,hg,hh,GK,yg,mP,kU⟩
 ·omega
 have bY:i<cur.size:=(by rw[mP];omega);refine⟨g,cap,rfl,hg,aC hh,rfl,k8 w g i _ _ hh,⟨cur[i],?_⟩,λW=>?_,?_⟩
 ·rw[Ys w g _ _ _ _ hh];exact Array.getElem?_eq_getElem bY
 ·have e:=dN (P:=prog) 58 3 1 underlying58 (λw=>by kernel_rfl) (rfl:(g:Option Addr)=g) l.length cap i hi W;rw[Nat.mul_one,d9] at e;exact e
 refine⟨tX MG _,.inr ⟨g,cap,cur.setIfInBounds i x,by rw[List.length_set],hg,dM hh,by rw[List.length_set];exact GK,yg,by simpa using mP,?_⟩⟩
 have Gh:(l.set i x).flatMap qf=(l.flatMap qf).set i x:=by
  have hl:∀(l:List Int) (i:Nat),(l.set i x).flatMap qf=(l.flatMap qf).set i x:=by
   intro l
   induction l with
   | nil=>intro i;rfl
   | cons y l ih=>
     intro i
     cases i with
     | zero=>rfl
     | succ i=>
       show qf y++(l.set i x).flatMap qf=(qf y++l.flatMap qf).set (i+1) _;rw[ih];rfl
  exact hl l i
 rw[Gh,<-kU,List.length_set,Array.toList_setIfInBounds,List.take_set]
structure qg {α:Type} (W:World) (base:Nat) (cells:α->List Value) (hs:List Hdr) (ls:List (List α)):Prop where
 len:hs.length=ls.length
 row:∀(i:Nat) (l:List α) (h:Hdr),ls[i]?=l->hs[i]?=h->ax W base 3 1 cells l h.v
section
variable {α:Type} {W W':World} {base:Nat} {cells:α->List Value} {hs:List Hdr} {ls:List (List α)}
theorem qg.nil:qg W base cells [] ([]:List (List α)):=⟨rfl,λi l h hl=>by simp at hl⟩
theorem qg.get(h:qg W base cells hs ls){i:Nat}{x:Hdr}(hx:hs[i]?=x):∃l,ls[i]?=some l/\ax W base 3 1 cells l x.v:=by
 have hi:=(z4.1 hx).1;have hl:ls[i]?=ls[i]'(by rw[<-h.len];exact hi):=z6 _;exact⟨_,hl,h.row i _ x hl hx⟩
theorem qg.keep(h:qg W base cells hs ls)(hb:∀x∈hs,∀q,x.v.ownBlock=some q->W'.heap[q]?=W.heap[q]?):qg W' base cells hs ls:=
 ⟨h.len,λi l x hl hx=>(h.row i l x hl hx).bu λq hq=>hb x (SK hx) q hq⟩
theorem qg.lt(h:qg W base cells hs ls){x:Hdr}(hx:x∈hs){q:Nat}(hq:x.v.ownBlock=q):base<=q/\q<W/\∃cs,W.heap[q]?=some (.cells cs 3 (0,0)):=by
 obtain⟨i,hi⟩:=List.getElem?_of_mem hx;obtain⟨l,_,ho⟩:=h.get hi;exact⟨(ho.block_lt hq).1,(ho.block_lt hq).2,ho.bC hq⟩
theorem qg.below(h:qg W base cells hs ls)(hb:Bw W W'):qg W' base cells hs ls:=h.keep λ_ hx q hq=>hb.block q (h.lt hx hq).2.1
theorem qg.snoc(h:qg W base cells hs ls){l:List α}{x:Hdr}(ho:ax W base 3 1 cells l x.v):qg W base cells (hs++[x]) (ls++[l]):=by
 refine⟨by rw[z5,z5,h.len];rfl,λi l' x' hl hx=>?_⟩;rw[List.getElem?_append] at hl hx;by_cases hi:i<ls.length
 ·rw[j6 hi] at hl;rw[j6 (by rw[h.len];exact hi)] at hx;exact h.row i l' x' hl hx
 rw[j5 hi] at hl;rw[j5 (by rw[h.len];exact hi)] at hx
 have e1:i - ls.length=0:=by
  have:=(z4.1 hl).1;simp at this;omega
 rw[e1] at hl;rw[h.len,e1] at hx;simp only[List.getElem?_cons_zero,l5] at hl hx;subst hl;subst hx;exact ho
end
theorem iP{cs':Array Value}{t':TypeId}{fr':Nat×Nat}(h:W.heap[q]?=some (.cells cs t fr))(h':W.heap[q']?=some (.cells cs' t' fr'))(ht:t≠t'):q≠q':=λe=>by
 rw[e,h'] at h;simp only[l5,Obj.cells.injEq] at h;exact ht h.2.1.symm
theorem tK{enc:κ->Value}{l:List (κ×β)}(h:W.heap[q]?=some (.cells cs t fr))(h':gQ W q' enc val l):q≠q':=λe=>by
 have h2:W.heap[q']?=Ag enc val l:=h';rw[<-e,h] at h2;simp[Ag] at h2
theorem Si(a:ByteArray):∀(l:List (ByteArray×β)) (i:Nat),Instr.findNow .string a (gE lg val l i) i=some ((xR eqS a l i).map λp=>(p.1,val p.2))
 | [],_=>rfl
 | (b,v)::l,i=>by
   rw[gE,Instr.findNow,lg,Instr.sameNow,Yz,xR];cases h:eqS a b
   ·simp only[b6,if_false];exact Si a l (i+1)
   rfl
theorem TL:NM prog 9 lg eqS where
 chk e k W:=MapKept.run_checkKey (d:=.string) zK (by simp[lg,MapKept.IsKey]) e 9999
 find β val l k W:=MapKept.run_findKey (d:=.string) zK (Si k l 0)
 inj a b h:=iV.1 h
 same k:=by simp[lg,Instr.sameBits,MapKept.bytes_beq]
theorem Lr{eq:κ->κ->Bool}(he:∀a b,eq a b=true↔a=b)(k j:κ)(v:β):∀l:List (κ×β),dP eq j (jh eq k v l)=if eq j k=true then some v else dP eq j l
 | []=>by
   rw[jh,dP,dP,dP]
 | (k',u)::l=>by
   rw[jh];by_cases h:eq k k'=true
   ·obtain rfl:=(he _ _).1 h;rw[j6 h,dP,dP];by_cases hj:eq j k=true
    ·rw[j6 hj,j6 hj]
    rw[j5 hj,j5 hj,j5 hj]
   rw[j5 h,dP,dP,Lr he k j v l];by_cases hj:eq j k'=true
   ·obtain rfl:=(he _ _).1 hj;rw[j6 hj,j6 hj,j5 (λe=>h ((he _ _).2 ((he _ _).1 e).symm))]
   rw[j5 hj,j5 hj]
section
variable {F:Fence} {n:Nat} {P:Program} {ops:Array Oper} {Q:Exit->Act->World->Prop} {md:Region.Mode} {C:World->Prop} {st:Nat}
def Iq(ops:Array Oper):Bool:=ops.all λo=>match o.op with
 | .defer _=>false
 | _=>true
theorem Sl(h:Iq ops=true){j:Nat}{o:Oper}(ho:ops[j]?=o):∀c,o.op≠.defer c:=λc e=>by
 unfold Iq at h;rw[Array.all_eq_true] at h;obtain⟨hj,rfl⟩:=Array.getElem?_eq_some_iff.1 ho;have:=h j hj;rw[e] at this;cases this
def sS(P:Program)(ops:Array Oper)(C:World->Prop)(o:Oper)(v:Value)(a:Act):Prop:=YieldsIf P ops C o v a/\∀w,o.about P w a.eval=none
theorem sS.wpOpIn{i:Nat}{o:Oper}{v:Value}{a:Act}(AX:Iq ops=true)(hi:ops[i]?=o)(hy:sS P ops C o v a)
 {K:Act->World->Prop} {w:World} (hC:C w) (h:K (a.put o.dst v) w):wpOpIn F n P ops Q i K a w:=by
 unfold Go.wpOpIn;simp only[hi];have nz:∀f,o.about P w a.eval=some f->F.fn f:=λf hf=>(by rw[hy.2 w] at hf;cases hf)
 rcases hy.1 with ⟨hw,hv⟩ | ⟨hw,rfl⟩
 ·simp only[hw,if_true,Oper.wpIn,Oper.semAt_plain F _ _ (Sl AX hi),hv w hC,Oper.uponIn];exact⟨nz,h⟩
 simp only[hw,b6,if_false];exact⟨nz,h⟩
theorem sS.of_same{o:Oper}{v:Value}{a a':Act}(hy:sS P ops C o v a)(he:execOp a'.eval o=execOp a.eval o)
 (hw:Region.wanted o (yielded ops a'.tmps)=Region.wanted o (yielded ops a.tmps)) (hb:∀w,o.about P w a'.eval=o.about P w a.eval):sS P ops C o v a':=
 ⟨hy.1.of_same he hw,λw=>by rw[hb w];exact hy.2 w⟩
theorem afn{j:Nat}{oi oj:Oper}{v:Value}(AX:Iq ops=true)(hj:ops[j]?=oj)(hap:oi.apart ops oj=true)
 (hsi:∀cs b,oi.op≠.select cs b) (hsj:∀cs b,oj.op≠.select cs b)
 (hQ:∀c a w,Q (.panic c) (a.put oi.dst v) w->Q (.panic c) a w) {K:Act->World->Prop} {a:Act} {w:World}
 (hy:sS P ops C oi v a) (h:wpOpIn F n P ops Q j K (a.put oi.dst v) w):
 wpOpIn F n P ops Q j (λa' w'=>sS P ops C oi v a'/\K (a'.put oi.dst v) w') a w:=by
 obtain⟨h1,h2,h3⟩:=Oper.apart_spec hap
 have keep:∀(a:Act),sS P ops C oi v a->∀u,sS P ops C oi v (a.put oj.dst u):=λa hy u=>
  hy.of_same (execOp_put oi hsi a oj.dst u h3) (wanted_put oi a oj.dst u h3) (λw=>about_put oi w a oj.dst u h3)
 have keepD:∀d,sS P ops C oi v { a with defers:=d::a.defers }:=λd=>hy.of_same rfl rfl (λ_=>rfl);have hnj:=Sl AX hj;unfold wpOpIn at*;simp only[hj] at*;rw[wanted_put oj a oi.dst v h1,about_put oj w a oi.dst v h1] at h
 split
 ·rename_i hw;simp only[hw,if_true] at h;unfold Oper.wpIn at*;rw[about_put oj w a oi.dst v h1] at h;refine⟨h.1,?_⟩;have h:=h.2;rw[Oper.semAt_plain F _ _ hnj,execOp_put oj hsj a oi.dst v h1] at h;rw[Oper.semAt_plain F _ _ (hnj)];generalize (execOp a.eval oj).run P w=r at*
  cases r with
  | ok x w'=>
    cases x<;>simp only[Oper.uponIn] at h ⊢
    case value u=>exact⟨keep a hy u,by rw[<-Act.put_comm a v u h2];exact h⟩
    case skip=>exact⟨keep a hy _,by rw[<-Act.put_comm a v undef h2];exact h⟩
    case defer d=>
     refine⟨keep _ (keepD d) _,?_⟩;rw[<-Act.put_comm _ v undef h2,<-Act.put_defers];exact h
    case enter f args=>
     refine⟨h.1,CallsIn.mono h.2 λe w'' he=>?_⟩
     cases e with
     | returned u=>exact⟨keep a hy u,by rw[<-Act.put_comm a v u h2];exact he⟩
     | panicked c=>exact hQ _ _ _ he
     | outgrown=>exact he
    case row row args=>exact⟨h.1,RowsIn.mono h.2 λu w'' he=>⟨keep a hy u,by rw[<-Act.put_comm a v u h2];exact he⟩⟩
    case round l f tmps assign body=>
     refine⟨h.1,RoundIn.mono h.2 λe w'' he=>?_⟩
     cases e with
     | returned u=>exact⟨keep a hy u,by rw[<-Act.put_comm a v u h2];exact he⟩
     | panicked c=>exact hQ _ _ _ he
     | outgrown=>exact he
  | halt x w'=>
    cases x<;>simp only[Oper.uponIn] at h ⊢
    case panic u=>exact hQ _ _ _ h
 rename_i hw;simp only[hw] at h;exact⟨h.1,keep a hy _,by rw[<-Act.put_comm a v undef h2];exact h.2⟩
def lF(F:Fence)(n:Nat)(P:Program)(md:Region.Mode)(ops:Array Oper)(Q:Exit->Act->World->Prop)(C:World->Prop)(st:Nat):Nat->Array Bool->Act->World->Prop
 | 0,l,a,w=>Region.ready md ops l=[]/\Q .normal a w
 | k+1,l,a,w=>(Region.ready md ops l=[]->Q .normal a w)/\
   ∀i∈Region.ready md ops l,wpOpIn F n P ops Q i (λa' w'=>Till C st (l.setIfInBounds i true) w'/\lF F n P md ops Q C st k (l.setIfInBounds i true) a' w') a w
theorem lF.any:∀(k:Nat) (l:Array Bool) (a:Act) (w:World),lF F n P md ops Q C st k l a w->wpAnyIn F n P md ops Q k l a w
 | 0,_,_,_,h=>h
 | k+1,_,_,_,h=>⟨h.1,λi hi=>wpOpIn_mono (λa' w' h'=>lF.any k _ a' w' h'.2) (h.2 i hi)⟩
theorem lF.first{i:Nat}{oi:Oper}{v:Value}{y:Nat}{r:List Nat}(AX:Iq ops=true)(hi:ops[i]?=oi)(hp:Ia md ops (i::y::r)=true)(hl:(y::r).getLast?=st)
 (CW:∀(j:Nat) (o:Oper) cs b,ops[j]?=o->o.op≠.select cs b) (hQ:∀c a w,Q (.panic c) (a.put oi.dst v) w->Q (.panic c) a w):
 ∀(k:Nat) (l:Array Bool) (a:Act) (w:World),EL md ops l->
  (∀j oj,ops[j]?=some oj->j≠i->l.getD j true=false->(∀e∈oj.after,Region.binds md e=true->e.on≠i)->oi.apart ops oj=true)->
  i∈Region.ready md ops l->l.getD st true=false->i≠st->sS P ops C oi v a->C w->
  lF F n P md ops Q C st k (l.setIfInBounds i true) (a.put oi.dst v) w->lF F n P md ops Q C st (k+1) l a w:=by
 intro k
 induction k with
 | zero=>
   intro l a w _ _ hr hs oP hy hC H;refine⟨λh=>(by rw[h] at hr;cases hr),λj hj=>?_⟩;by_cases mg:j=i
   ·rw[mg];exact hy.wpOpIn AX hi hC ⟨λ_=>hC,H⟩
   have h0:=ready_mono hj mg;rw[H.1] at h0;cases h0
 | succ k ih=>
   intro l a w eH yz hr hs oP hy hC H;refine⟨λh=>(by rw[h] at hr;cases hr),λj hj=>?_⟩;by_cases mg:j=i
   ·rw[mg];exact hy.wpOpIn AX hi hC ⟨λ_=>hC,H⟩
   obtain⟨JL,oj,AB,dW⟩:=mem_ready.1 hj;have Fg:=(mem_ready.1 hr).1
   have La:∀e∈oj.after,Region.binds md e=true->e.on≠i:=λe he hb heq=>by
    have h1:=dW e he hb;rw[heq] at h1
    rcases i8 i l.size with aN | jT
    ·simp[aN] at Fg h1;rw[Fg] at h1;cases h1
    simp[Array.getElem?_eq_none jT] at h1
   have ZE:j≠st:=λe=>XF eH r i y Fg hp hl (e ▸ hj);have h2:=afn AX AB (yz j oj AB mg JL La) (λcs b=>CW i oi cs b hi) (λcs b=>CW j oj cs b AB) hQ hy (H.2 j (ready_mono hj mg));refine wpOpIn_mono (λa' w' h3=>?_) h2;obtain⟨QO,hT,hA⟩:=h3;have uS:(l.setIfInBounds j true).getD st true=false:=(by rw[getD_set_ne true ZE];exact hs);have hC':C w':=hT (by rw[getD_set_ne true ZE,getD_set_ne true oP];exact hs);refine⟨λ_=>hC',ih (l.setIfInBounds j true) a' w' (eH.set hj) (λk ok hk o9 JM BL=>?_) (ready_mono hr (Ne.symm mg)) uS oP QO hC' ?_⟩
   ·refine yz k ok hk o9 ?_ BL;by_cases FB:j=k
    ·rw[<-FB];exact JL
    rw[getD_set_ne true FB] at JM;exact JM
   rw[Array.setIfInBounds_comm _ _ mg];exact hA
theorem lF.take{i:Nat}{oi:Oper}{v:Value}{k:Nat}{l:Array Bool}{a:Act}{w:World}(y:Nat)(r:List Nat)(AX:Iq ops=true)(hi:ops[i]?=oi)(hp:Ia md ops (i::y::r)=true)(hl:(y::r).getLast?=st)
 (hs:Region.noSelect ops=true) (eH:MF md ops l=true) (hf:Region.free md ops l i=true) (hr:(Region.ready md ops l).contains i=true) (bZ:l.getD st true=false) (oP:i≠st)
 (hQ:∀c a w,Q (.panic c) (a.put oi.dst v) w->Q (.panic c) a w) (hy:sS P ops C oi v a) (hC:C w)
 (h:lF F n P md ops Q C st k (l.setIfInBounds i true) (a.put oi.dst v) w):lF F n P md ops Q C st (k+1) l a w:=
 lF.first AX hi hp hl (Region.noSelect_spec hs) hQ k l a w (RS eH) (Region.free_spec hi hf) (by simpa using hr) bZ oP hy hC h
theorem lF.tk(i y:Nat)(r:List Nat){oi:Oper}{v:Value}{k:Nat}{l:Array Bool}{a a':Act}{w:World}(hC:C w)(h:lF F n P md ops Q C st k (l.setIfInBounds i true) a' w)(AX:Iq ops=true:=by kernel_rfl)(hi:ops[i]?=oi:=by exact aB rfl)(hl:(y::r).getLast?=st:=by kernel_rfl)(hb:(okT md ops st i l&&(Ia md ops (i::y::r)&&(MF md ops l&&!l.getD st true)))=true:=by kernel_rfl)
 (hy:sS P ops C oi v a:=by (first | exact⟨Or.inr ⟨zL,rfl⟩,λ_=>rfl⟩ | (refine⟨Or.inl ⟨zL,?_⟩,λ_=>rfl⟩;intro w hSw;(try dsimp only at hSw);go_simp;all_goals (try with_reducible rfl)))) (hQ:∀c a w,Q (.panic c) (a.put oi.dst v) w->Q (.panic c) a w:=by exact λ_ _ _ h=>h) (ha:a.put oi.dst v=a':=by ((try simp only[Act.put,List.setIfInBounds_toArray,List.set_cons_zero,List.set_cons_succ]);exact rfl)):lF F n P md ops Q C st (k+1) l a w:=by
 subst ha;simp only[z7] at hb;obtain⟨h1,h2,h3,h4⟩:=NK hb.1;exact lF.take y r AX hi hb.2.1 hl h1 hb.2.2.1 h2 h3 (by simpa using hb.2.2.2) h4 hQ hy hC h
theorem lF.done{l:Array Bool}{a:Act}{w:World}(hr:Region.ready md ops l=[])(h:Q .normal a w):∀k,lF F n P md ops Q C st k l a w
 | 0=>⟨hr,h⟩
 | _+1=>⟨λ_=>h,by rw[hr];simp⟩
theorem lF.one{i:Nat}{o:Oper}{k:Nat}{l:Array Bool}{a:Act}{w:World}(hr:Region.ready md ops l=[i])(ho:ops[i]?=o)
 (h:∀K:Act->World->Prop,Shut (∀a w,(Till C st (l.setIfInBounds i true) w)->lF F n P md ops Q C st k (l.setIfInBounds i true) a w->K a w)->if Region.wanted o (yielded ops a.tmps)=true then Oper.wpIn F n P o a w K Q else (∀f,o.about P w a.eval=some f->F.fn f)/\K (a.put o.dst undef) w):lF F n P md ops Q C st (k+1) l a w:=by
 refine⟨λh0=>(by rw[h0] at hr;cases hr),λj hj=>?_⟩;rw[hr,og] at hj;rw[hj];exact wpOpIn_step ho λK hK=>h K λa w h1 h2=>hK a w ⟨h1,h2⟩
theorem lF.start{id:Nat}{a:Act}{w:World}(C:World->Prop)(st:Nat)(hm:P.follows .mixedOrders=true)(h:lF F n P .any ops Q C st ops.size (Array.replicate ops.size false) a w.drew):(Code.region id ops true).wpIn F n P Q a w:=
 wpIn_region_any hm (lF.any _ _ _ _ h)
def abq(Q:Exit->Act->World->Prop):Exit->Act->World->Prop
 | .panic _,_,_=>False
 | .normal,a,w=>Q .normal a w
 | .ret,a,w=>Q .ret a w
 | .exit i,a,w=>Q (.exit i) a w
 | .goto i,a,w=>Q (.goto i) a w
 | .outgrown,a,w=>Q .outgrown a w
theorem anB{e:Exit}{a:Act}{w:World}(h:abq Q e a w):Q e a w:=by
 cases e<;>first | exact h | exact h.elim
theorem aP.ak2{id:Nat}{a:Act}{w:World}(C:World->Prop)(st:Nat)(hm:P.follows .mixedOrders=true)(h:aP F n P .any ops (abq Q) C st ops.size (Array.replicate ops.size false) a w.drew):(Code.region id ops true).wpIn F n P Q a w:=
 wpIn_mono (aP.start C st hm h) λ_ _ _ h=>anB h
theorem Jn{o:Oper}{a:Act}{w w':World}{K:Act->World->Prop}(s x:Operand)(t:TypeId)
 (uQ:o.op= .call { callee:=.builtin .append,args:=#[s,x],argTypes:=#[t,t] }) {v1 v2 v:Value} (hw:Region.wanted o (yielded ops a.tmps)=true) (hs:a.eval s=v1) (hx:a.eval x=v2) (bG:(Builtin.append_ #[t,t] o.type #[v1,v2]).run P w= .ok v w')
 (h:K (a.put o.dst v) w'):if Region.wanted o (yielded ops a.tmps)=true then Oper.wpIn F n P o a w K Q else (∀f,o.about P w a.eval=some f->F.fn f)/\K (a.put o.dst undef) w:=by
 rw[j6 hw];unfold Oper.wpIn;refine⟨?_,?_⟩
 ·simp[Oper.about,uQ,resolve,Target.leads,Sem.run_pure]
 rw[Oper.semAt_plain F _ _ (by rw[uQ];intro c yu;cases yu)];simp[execOp,uQ,resolve,invoke,builtin,hs,hx,bG,Result.andThen,Oper.uponIn];exact h
end
