import Derived.Test.YtgmnnegfndpakaaGreatDoorG17
import Derived.Test.YtgmnnegfndpakaaGreatDoorShlC
set_option maxHeartbeats 20000000
set_option maxRecDepth 100000
namespace Go.Proofs.YtgmnnegfndpakaaGreatDoor
open Go.RowKit
def aV(n:Nat):List Value:=[.int .i64 n]
theorem jd(x:Nat):(aV x).length=1:=rfl
theorem afF(l:List Nat):∀u∈l.flatMap aV,u.oneCell'=true:=by
 intro u hu;obtain⟨x,_,hx⟩:=List.mem_flatMap.1 hu;simp[aV] at hx;rw[hx];rfl
theorem info3:(Tryz.prog.info? 3).map (λi=>(i.zero,i.size,i.bytes))=some (some (.int .i64 0),1,8):=by kernel_rfl
theorem tyI:rC Tryz.prog 58 3 (.int .i64 0) 1 8:=sU zK info3 zK zD zD
theorem clone_any(l:List Nat)(A:Option Addr)(n c:Nat)(w:World)(F:Nat->Prop)(h:aY w F 1 aV l A n)(hn:n<4000000):
 Calls Tryz.prog 210 #[.slice A n c] w λe w'=>∃v',e= .returned v'/\ax w' w.heap.size 3 1 aV l v'/\Bw w w':=by
 rcases A with _ | ad
 ·have hl:l=[]:=by
   cases l with
   | nil=>rfl
   | cons x r=>obtain⟨b,off,hA,_⟩:=h.2 zP;cases hA
  subst hl;refine Calls.mono (P:=Tryz.prog) (f:=210) (Tryz.slices_Clone_nil n c w) ?_;rintro e w' ⟨rfl,rfl⟩;exact⟨_,rfl,ax.nil _ _ _ _ _,Below.refl _ _⟩
 ·rcases Nat.eq_zero_or_pos n with h0 | h0
  ·have hl:l=[]:=List.eq_nil_of_length_eq_zero (by rw[<-h.1];exact h0)
   subst hl;subst h0;refine Calls.mono (P:=Tryz.prog) (f:=210) (Tryz.slices_Clone_int_zero ad c w) ?_;rintro e w' ⟨v',rfl,ho,-,hb⟩;exact⟨_,rfl,ho,hb⟩
  ·obtain⟨b,off,hA,_,hc⟩:=h.2 (by rw[<-h.1];exact h0)
   obtain rfl:=zI hA;obtain⟨hu,i,hi,hz,bY,nP,ry,hs0,-⟩:=tyI;have hs:=h.src jd zD n (zR _);have Zz:l.take n=l:=(by rw[h.1];exact List.take_length);rw[Zz] at hs;obtain⟨b',off',e1,aaF⟩:=hs.2 h0;simp only[Option.some.injEq,Addr.mk.injEq,and_true] at e1;obtain⟨rfl,rfl⟩:=e1;refine Calls.mono (P:=Tryz.prog) (f:=210) (Tryz.slices_Clone i _ 1 8 hi hz bY nP ry hs0 (λw=>by kernel_rfl) b off n c (l.flatMap aV) w hs.1 (by unfold maxLen;omega) zO aaF (afF l)) ?_;rintro e w' ⟨v',rfl,ho,-,hb⟩;exact⟨_,rfl,by unfold ax;rw[<-h.1];exact ho,hb⟩
structure lK where
 lc:rE 12
 num:Nat
 fA:Option Addr
 fn:Nat
 fc:Nat
def lK.fv(r:lK):Value:=.slice r.fA r.fn r.fc
def sH(r:lK):List Value:=r.lc.1++[.int .i64 r.num,r.fv]
theorem Il(r:lK):(sH r).length=14:=by unfold sH;rw[z5,r.lc.2.1];rfl
theorem art(l:List lK):∀u∈l.flatMap sH,u.oneCell'=true:=by
 intro u hu;obtain⟨r,_,hx⟩:=List.mem_flatMap.1 hu;unfold sH at hx
 rcases List.mem_append.1 hx with hx | hx
 ·exact r.lc.2.2 u hx
 ·simp only[z15,List.not_mem_nil,or_false] at hx
  rcases hx with rfl | rfl<;>rfl
theorem aru:(Tryz.prog.info? 195).map (λi=>(i.zero,i.size,i.bytes))=some (some (.agg #[.int .i64 0,.int .i64 0,.int .i64 0,.int .i64 0,.int .i64 0,.string ⟨#[]⟩,.string ⟨#[]⟩,.string ⟨#[]⟩,.slice none 0 0,.slice none 0 0,.int .i64 0,.slice none 0 0,.int .i64 0,.slice none 0 0]),14,200):=by kernel_rfl
theorem tyP:rC Tryz.prog 167 195 (.agg #[.int .i64 0,.int .i64 0,.int .i64 0,.int .i64 0,.int .i64 0,.string ⟨#[]⟩,.string ⟨#[]⟩,.string ⟨#[]⟩,.slice none 0 0,.slice none 0 0,.int .i64 0,.slice none 0 0,.int .i64 0,.slice none 0 0]) 14 200:=sU zK aru zK zD zD
structure Hd where
 e:Value
 f:Value
 mp:Value
 em:Value
 al:Value
def Yx(hd:Hd)(pv:Value):Array Value:=#[hd.e,pv,hd.f,hd.mp,hd.em,hd.al]
structure gV (w:World) (base:Nat) (T:Nat->Prop) (bm:Nat) (hd:Hd) (pl:List aU) (pv:Value) (rs:List lK):Prop where
 blk:w.heap[bm]?=some (.cells (Yx hd pv) 169)
 own:ax w base 195 14 sH rs pv
 len:rs.length=pl.length
 IP:T bm
 Fv:∀k:Nat,pv.ownBlock=some k->T k/\k≠bm
 row:∀(i:Nat) (q:aU) (r:lK),pl[i]?=some q->rs[i]?=some r->q.num=r.num/\au w (· <base) (aZ q.leaf) r.lc.1/\ax w base 3 1 aV q.follow r.fv/\∀k:Nat,r.fv.ownBlock=some k->T k/\k≠bm/\pv.ownBlock≠some k
 ZA:∀(i j:Nat) (r r':lK) (k:Nat),i≠j->rs[i]?=some r->rs[j]?=some r'->r.fv.ownBlock=some k->r'.fv.ownBlock≠some k
 inT:∀k:Nat,T k->base<=k/\k<w.heap.size
 le:base<=w.heap.size
theorem ax.bu{α:Type}{w w':World}{base:Nat}{e:TypeId}{sz:Nat}{cells:α->List Value}{l:List α}{v:Value}(h:ax w base e sz cells l v)(hk:∀k,v.ownBlock=some k->w'.heap[k]?=w.heap[k]?):ax w' base e sz cells l v:=
 h.grown λk _ hv=>hk k hv.symm
theorem gV.keep{w w':World}{base:Nat}{T:Nat->Prop}{bm:Nat}{hd:Hd}{pl:List aU}{pv:Value}{rs:List lK}(h:gV w base T bm hd pl pv rs)(hs:w.heap.size<=w'.heap.size)(h1:∀k,(T k\/k<base)->w'.heap[k]?=w.heap[k]?):gV w' base T bm hd pl pv rs where
 blk:=(h1 bm (.inl h.IP)).trans h.blk
 own:=h.own.bu λk hk=>h1 k (.inl (h.Fv k hk).1)
 len:=h.len
 IP:=h.IP
 Fv:=h.Fv
 row i q r hq hr:=by
  obtain⟨a,b,c,d⟩:=h.row i q r hq hr;exact⟨a,b.keep λk hk=>⟨hk,h1 k (.inr hk)⟩,c.bu λk hk=>h1 k (.inl (d k hk).1),d⟩
 ZA:=h.ZA
 inT k hk:=⟨(h.inT k hk).1,Nat.lt_of_lt_of_le (h.inT k hk).2 hs⟩
 le:=zT h.le hs
theorem gV.below{w w':World}{base:Nat}{T:Nat->Prop}{bm:Nat}{hd:Hd}{pl:List aU}{pv:Value}{rs:List lK}(h:gV w base T bm hd pl pv rs)(hb:Bw w w'):gV w' base T bm hd pl pv rs:=
 h.keep hb.size λk hk=>hb.block k (by
  rcases hk with hk | hk
  ·exact(h.inT k hk).2
  ·have:=h.le;omega)
theorem ZB{α:Type}{cells:α->List Value}{sz:Nat}(hl:∀x,(cells x).length=sz):∀(l:List α) (i:Nat) (x x':α) (j:Nat) (v:Value),l[i]?=some x->j<sz->cells x'=(cells x).set j v->(l.set i x').flatMap cells=(l.flatMap cells).set (i*sz+j) v
 | [],i,x,x',j,v,h,_,_=>by simp at h
 | y::l,0,x,x',j,v,h,hj,he=>by
   obtain rfl:y=x:=(by simpa using h);rw[List.set_cons_zero,List.flatMap_cons,List.flatMap_cons,Nat.zero_mul,Nat.zero_add,List.set_append_left _ _ (by rw[hl];exact hj),he]
 | y::l,i+1,x,x',j,v,h,hj,he=>by
   rw[List.set_cons_succ,List.flatMap_cons,List.flatMap_cons,List.set_append_right _ _ (by rw[hl,Nat.add_mul];omega),hl,show (i+1)*sz+j - sz=i*sz+j by rw[Nat.add_mul];omega];rw[ZB hl l i x x' j v (by simpa using h) hj he]
theorem gV.place{w:World}{base:Nat}{T:Nat->Prop}{bm:Nat}{hd:Hd}{pl:List aU}{pv:Value}{rs:List lK}(h:gV w base T bm hd pl pv rs){i:Nat}{q:aU}(hq:pl[i]?=some q):
 ∃g cap r cur,pv= .slice (some ⟨g,0,none⟩) pl.length cap/\rs[i]?=some r/\w.heap[g]?=some (.cells cur 195)/\cur.toList.take (rs.length*14)=rs.flatMap sH/\cur.size=cap*14/\pl.length<=cap/\cap<=maxLen/\base<=g/\T g/\g≠bm/\cu w g (i*14) (sH r)/\
  (∀W,(Instr.indexAt 167 pv (.int .i64 (i:Int))).run Tryz.prog W= .ok (.pointer (some ⟨g,i*14,none⟩)) W):=by
 have hi:i<pl.length:=(List.getElem?_eq_some_iff.1 hq).1
 have hir:i<rs.length:=by rw[h.len];exact hi
 have hr:rs[i]?=some rs[i]:=z6 hir
 rcases h.own.2 with ⟨_,hn⟩ | ⟨g,cap,cur,hv,hg,hh,GK,yg,mP,kU⟩
 ·omega
 ·have ht:=h.Fv g (by rw[hv];rfl)
  have hc:cu w g (i*14) (sH rs[i]):=by
   intro j v hj;have aA9:j<14:=(by rw[<-Il rs[i]];exact(List.getElem?_eq_some_iff.1 hj).1);have e1:=flat_get Il rs i j _ hr aA9;rw[<-kU,List.getElem?_take_of_lt zO] at e1;rw[cell_of_row w g _ _ _ _ hh,<-hj,<-e1];simp
  refine⟨g,cap,rs[i],cur,by rw[hv,h.len],hr,hh,kU,mP,by rw[<-h.len];exact GK,yg,hg,ht.1,ht.2,hc,λW=>?_⟩;rw[hv,h.len];have e:=dN (P:=Tryz.prog) 167 195 14 Tryz.underlying167 (λw=>by kernel_rfl) (rfl:(some ⟨g,0,none⟩:Option Addr)=some ⟨g,0,none⟩) pl.length cap i hi W;rw[Nat.zero_add] at e;exact e
theorem gV.grow{w w1:World}{base:Nat}{T:Nat->Prop}{bm:Nat}{hd:Hd}{pl:List aU}{pv:Value}{rs:List lK}(h:gV w base T bm hd pl pv rs){i:Nat}{q:aU}{r:lK}(hq:pl[i]?=some q)(hr:rs[i]?=some r){g n cap:Nat}(oC:pv= .slice (some ⟨g,0,none⟩) n cap)
 {f:List Nat} {fA:Option Addr} {fn fc:Nat} (ho:ax w1 base 3 1 aV (q.follow++f) (.slice fA fn fc)) (hg:w.grownBy w1 r.fv.ownBlock) (hb:(Value.slice fA fn fc).ownBlock=r.fv.ownBlock\/(Value.slice fA fn fc).ownBlock=some w.heap.size):
 gV (w1.setCell ⟨g,i*14+13,none⟩ (.slice fA fn fc)) base (λk=>T k\/(Value.slice fA fn fc).ownBlock=some k) bm hd (tZ pl f i) pv (rs.set i { r with fA:=fA,fn:=fn,fc:=fc })/\
  Kept T w (w1.setCell ⟨g,i*14+13,none⟩ (.slice fA fn fc)):=by
 obtain⟨g',cap',r',cur,e1,e2,e3,e4,e5,e6,e7,e8,e9,e10,e11,-⟩:=h.place hq;rw[e1] at oC;simp only[Value.slice.injEq,Option.some.injEq,Addr.mk.injEq,and_true] at oC;obtain⟨rfl,-,rfl⟩:=oC
 obtain rfl:r=r':=by rw[hr] at e2;exact zI e2
 have hpo:pv.ownBlock=some g':=by rw[e1];rfl
 obtain⟨a1,a2,a3,a4⟩:=h.row i q r hq hr;have zV:g'<w.heap.size:=aC e3;have jU:i<rs.length:=(List.getElem?_eq_some_iff.1 hr).1;have hfg:r.fv.ownBlock≠some g':=λe=>(a4 g' e).2.2 hpo
 have hng:(Value.slice fA fn fc).ownBlock≠some g':=by
  rcases hb with hb | hb
  ·rw[hb];exact hfg
  ·rw[hb];intro e;have:=zI e;omega
 obtain⟨w2,mJ⟩:=zF (w1.setCell ⟨g',i*14+13,none⟩ (.slice fA fn fc));rw[mJ]
 have far:∀k,k≠g'->w2.heap[k]?=w1.heap[k]?:=λk hk=>by rw[<-mJ];exact Below.heap_setCell _ _ _ _ hk
 have old:∀k,k<w.heap.size->r.fv.ownBlock≠some k->k≠g'->w2.heap[k]?=w.heap[k]?:=λk hk h1 h2=>(far k h2).trans (hg.block k hk (λe=>h1 e.symm))
 have bY:w1.heap.size=w2.heap.size:=by rw[<-mJ];simp[World.setCell]
 have lV:w1.heap[g']?=some (.cells cur 195):=(hg.block g' zV (λe=>hfg e.symm)).trans e3
 have qo:w2.heap[g']?=some (.cells (cur.setIfInBounds (i*14+13) (.slice fA fn fc)) 195):=by rw[<-mJ];exact dM lV
 have Fh:=aS ho;refine⟨⟨?_,?_,?_,.inl h.IP,λk hk=>⟨.inl (h.Fv k hk).1,(h.Fv k hk).2⟩,?_,?_,?_,?_⟩,?_⟩
 ·have WI:r.fv.ownBlock≠some bm:=λe=>(a4 bm e).2.1 rfl
  exact(old bm (h.inT bm h.IP).2 WI (Ne.symm e10)).trans h.blk
 ·have Gh:(rs.set i { r with fA:=fA,fn:=fn,fc:=fc }).flatMap sH=(rs.flatMap sH).set (i*14+13) (.slice fA fn fc):=by
   refine ZB Il rs i r _ 13 _ hr zD ?_;unfold sH lK.fv;rw[List.set_append_right _ _ (by rw[r.lc.2.1];decide),r.lc.2.1];rfl
  refine⟨tX Il _,.inr ⟨g',cap',cur.setIfInBounds (i*14+13) (.slice fA fn fc),by rw[e1,List.length_set,h.len],e8,qo,by rw[List.length_set,h.len];exact e6,e7,by simpa using e5,?_⟩⟩;rw[Gh,<-e4,List.length_set,Array.toList_setIfInBounds,List.take_set]
 ·rw[List.length_set,Vj,h.len]
 ·intro j q' r' hq' Aq
  rw[Bo] at hq';by_cases Fz:i=j
  ·subst Fz
   rw[if_pos rfl,hq] at hq';obtain rfl:=zI hq';rw[List.getElem?_set_self jU] at Aq;obtain rfl:=zI Aq;refine⟨a1,a2.keep λk hk=>⟨hk,old k (by have:=h.le;omega) (λe=>by have:=(h.inT k (a4 k e).1).1;omega) zO⟩,?_,λk hk=>⟨.inr hk,?_,λe=>hng (hk.trans (e.symm.trans hpo))⟩⟩
   ·exact ax.bu ho λk hk=>far k (λe=>hng (e ▸ hk))
   ·rcases hb with hb | hb
    ·exact(a4 k (hb ▸ hk)).2.1
    ·have fM:some w.heap.size=some k:=hb.symm.trans hk
     have:=zI fM;have:=(h.inT bm h.IP).2;omega
  ·rw[if_neg Fz] at hq'
   rw[List.getElem?_set_ne Fz] at Aq;obtain⟨c1,c2,c3,c4⟩:=h.row j q' r' hq' Aq;refine⟨c1,c2.keep λk hk=>⟨hk,old k (by have:=h.le;omega) (λe=>by have:=(h.inT k (a4 k e).1).1;omega) zO⟩,c3.bu λk hk=>?_,λk hk=>⟨.inl (c4 k hk).1,(c4 k hk).2⟩⟩;exact old k (h.inT k (c4 k hk).1).2 (λe=>h.ZA i j r r' k Fz hr Aq e hk) (λe=>(c4 k hk).2.2 (e ▸ hpo))
 ·intro a b ra rb k nz IQ JK hk
  have new:∀(j:Nat) (rj:lK),i≠j->rs[j]?=some rj->rj.fv.ownBlock=some k->(Value.slice fA fn fc).ownBlock≠some k:=by
   intro j rj Fz hrj hkj BL;obtain⟨qj,hqj⟩:∃qj,pl[j]?=some qj:=⟨_,z6 (by rw[<-h.len];exact(List.getElem?_eq_some_iff.1 hrj).1)⟩
   rcases hb with hb | hb
   ·exact h.ZA i j r rj k Fz hr hrj (hb ▸ BL) hkj
   ·have fM:some w.heap.size=some k:=hb.symm.trans BL
    have:=zI fM;have:=(h.inT k ((h.row j qj rj hqj hrj).2.2.2 k hkj).1).2;omega
  by_cases ha:i=a
  ·subst ha
   rw[List.getElem?_set_self jU] at IQ;obtain rfl:=zI IQ;rw[List.getElem?_set_ne nz] at JK;intro yw;exact new b rb nz JK yw hk
  ·rw[List.getElem?_set_ne ha] at IQ
   by_cases rX:i=b
   ·subst rX
    rw[List.getElem?_set_self jU] at JK;obtain rfl:=zI JK;exact new a ra ha IQ hk
   ·rw[List.getElem?_set_ne rX] at JK
    exact h.ZA a b ra rb k nz IQ JK hk
 ·rintro k (hk | hk)
  ·exact⟨(h.inT k hk).1,by rw[<-bY];exact Nat.lt_of_lt_of_le (h.inT k hk).2 hg.size⟩
  ·have:=Fh k hk.symm
   exact⟨this.1,by rw[<-bY];exact this.2⟩
 ·rw[<-bY];exact zT h.le hg.size
 ·refine⟨?_,?_,?_,by rw[<-bY];exact hg.size,λk hk hT=>old k hk (λe=>hT (a4 k e).1) (λe=>hT (e ▸ e9))⟩
  ·rw[<-mJ];exact hg.os
  ·rw[<-mJ];exact hg.tape
  ·rw[<-mJ];exact hg.output
end Go.Proofs.YtgmnnegfndpakaaGreatDoor
