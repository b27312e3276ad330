import Derived.Test.YtgmnnegfndpakaaGreatDoorG07
import Derived.Shelf.Abstract
import Derived.Shelf.RegionOpen
import Derived.Shelf.Spec.SlicesGrow
import Derived.Laws.AppendOwn
set_option maxHeartbeats 20000000
set_option maxRecDepth 100000
namespace Go.Proofs.YtgmnnegfndpakaaGreatDoor
open Go.RowKit Go.Shelf
attribute [local go_sem] Oper.semAt_some
theorem aa7{F:Fence}{n:Nat}{P:Program}{ops:Array Oper}{rest:List Oper}{o:Oper}{a:Act}{Q:Exit->Act->World->Prop}{w:World}(uO:o.guard=none)(s x:Operand)(t:TypeId)
 (uQ:o.op= .call { callee:=.builtin .append,args:=#[s,x],argTypes:=#[t,t] }) {α:Type} {cells:α->List Value} {e:TypeId} {z:Value} {sz bytes:Nat} (hT:rC P t e z sz bytes)
 (h1:∀(l:List α),∀u∈l.flatMap cells,u.oneCell'=true) (base:Nat) (l l2:List α) (v:Value) (hs:a.eval s=v) (dV:ax w base e sz cells l v)
 (A:Option Addr) (m c:Nat) (hx:a.eval x= .slice A m c) (hr:Src w sz A m (l2.flatMap cells)) (hm:m=l2.length) (rY:l.length+m<4000000) (eY:base<=w.heap.size)
 (h:∀v' w',ax w' base e sz cells (l++l2) v'->w.grownBy w' v.ownBlock->(v'.ownBlock=v.ownBlock\/v'.ownBlock=some w.heap.size)->wpListIn F n P ops Q rest (a.put o.dst v') w'):wpListIn F n P ops Q (o::rest) a w:=by
 obtain⟨ht,i,hi,hz,bY,nP,ry,h0,xZ⟩:=hT;refine wpListIn_plain uO λK hK'=>?_;obtain⟨v',w',bG,r1,r2,r3⟩:=TD (P:=P) w base t o.type e i z sz bytes ht hi hz bY nP ry h0 v _ _ dV A m c _ hr (h1 l2) rY xZ eY;unfold Oper.wpIn;refine⟨?_,?_⟩
 ·simp[Oper.about,uQ,resolve,Target.leads,Sem.run_pure]
 ·rw[Oper.semAt_plain F _ _ (by rw[uQ];intro c yu;cases yu)]
  simp[execOp,uQ,resolve,invoke,builtin,hs,hx,bG,Result.andThen];exact hK' _ _ (h v' w' (by unfold ax;rw[z5,List.flatMap_append,<-hm];exact r1) r2 r3)
theorem ax.from{α:Type}{w w':World}{base:Nat}{e:TypeId}{sz:Nat}{cells:α->List Value}{l:List α}{v:Value}(h:ax w base e sz cells l v)(hk:∀k,base<=k->k<w.heap.size->w'.heap[k]?=w.heap[k]?):ax w' base e sz cells l v:=by
 refine⟨h.1,?_⟩
 rcases h.2 with h2 | ⟨g,cap,cur,rfl,hg,hh,r⟩
 ·exact .inl h2
 ·have aN:=aC hh
  exact .inr ⟨g,cap,cur,rfl,hg,by rw[hk g hg aN];exact hh,r⟩
theorem ax.block_lt{α:Type}{w:World}{base:Nat}{e:TypeId}{sz:Nat}{cells:α->List Value}{l:List α}{v:Value}{k:Nat}(h:ax w base e sz cells l v)(hv:v.ownBlock=some k):base<=k/\k<w.heap.size:=by
 rcases h.2 with ⟨rfl,_⟩ | ⟨g,cap,cur,rfl,hg,hh,r⟩
 ·cases hv
 ·cases hv
  exact⟨hg,aC hh⟩
theorem ax.rowAt{α:Type}{w:World}{base:Nat}{e:TypeId}{sz:Nat}{cells:α->List Value}{l:List α}{v:Value}(h:ax w base e sz cells l v)(hl:∀x,(cells x).length=sz)(bY:0<sz)(F:Nat->Prop)(hF:∀b,v.ownBlock=some b->F b):
 ∃A c,v= .slice A l.length c/\aY w F sz cells l A l.length/\l.length<=c/\c<=maxLen:=by
 obtain⟨A,c,rfl,hr,h1,h2⟩:=h.row hl bY;refine⟨A,c,rfl,⟨hr.1,λhp=>?_⟩,h1,h2⟩;obtain⟨b,off,hA,hb,hc⟩:=hr.2 hp;exact⟨b,off,hA,hF b (by rw[hA];rfl),hc⟩
theorem ax.form{α:Type}{w:World}{base:Nat}{e:TypeId}{sz:Nat}{cells:α->List Value}{l:List α}{v:Value}(h:ax w base e sz cells l v):∃A c,v= .slice A l.length c:=by
 rcases h.2 with ⟨rfl,hn⟩ | ⟨g,cap,cur,rfl,_⟩
 ·exact⟨none,0,by rw[hn]⟩
 ·exact⟨_,_,rfl⟩
theorem ax.low{α:Type}{w:World}{base base':Nat}{e:TypeId}{sz:Nat}{cells:α->List Value}{l:List α}{v:Value}(h:ax w base e sz cells l v)(hb:base'<=base):ax w base' e sz cells l v:=by
 refine⟨h.1,?_⟩
 rcases h.2 with h2 | ⟨g,cap,cur,rfl,hg,r⟩
 ·exact .inl h2
 ·exact .inr ⟨g,cap,cur,rfl,zT hb hg,r⟩
end Go.Proofs.YtgmnnegfndpakaaGreatDoor
namespace Go.Proofs.YtgmnnegfndpakaaGreatDoor
open Go.RowKit
end Go.Proofs.YtgmnnegfndpakaaGreatDoor
namespace Go.Proofs
open Go Go.RowKit Go.Shelf
def Tryz.LG:Go.Shelf.Ren:=⟨fun | 4=>225 | n=>n,fun | 22=>24 | 25=>26 | 3=>3 | 4=>4 | 9=>9 | 20=>20 | 0=>0 | n=>n,fun | n=>n⟩
theorem Tryz.agP:Go.Proofs.Lays8.n4 Tryz.prog Tryz.LG:={
 mixed:=by kernel_rfl
 f4:=⟨Tryz.f225.name,by decide,Tryz.func225.trans (congrArg some (by kernel_rfl))⟩
 t0:=Tryz.underlying0
 a0:=Tryz.isAgg0
 z0:=Tryz.sizeOf0
 v0:=Tryz.zeroValue0
 t3:=Tryz.underlying3
 a3:=Tryz.isAgg3
 z3:=Tryz.sizeOf3
 v3:=Tryz.zeroValue3
 t4:=Tryz.underlying4
 a4:=Tryz.isAgg4
 z4:=Tryz.sizeOf4
 v4:=Tryz.zeroValue4
 t9:=Tryz.underlying9
 a9:=Tryz.isAgg9
 z9:=Tryz.sizeOf9
 v9:=Tryz.zeroValue9
 t20:=Tryz.underlying20
 a20:=Tryz.isAgg20
 z20:=Tryz.sizeOf20
 v20:=Tryz.zeroValue20
 t22:=Tryz.underlying24
 a22:=Tryz.isAgg24
 z22:=Tryz.sizeOf24
 v22:=Tryz.zeroValue24 }
end Go.Proofs
namespace Go.Proofs.YtgmnnegfndpakaaGreatDoor
open Go Go.RowKit
theorem Yb{w:World}{F:Nat->Prop}:∀(l:List aT) (b off:Nat),jq w F l b off->∃xs:List (rE 6),xs.length=l.length/\(∀(i:Nat) c x,l[i]?=some c->xs[i]?=some x->dA w F c x.1)/\cu w b off (xs.flatMap cN)
 | [],b,off,_=>⟨[],rfl,λi c x h=>by simp at h,λj v h=>by simp at h⟩
 | c::l,b,off,h=>by
   rw[jq] at h;obtain⟨⟨cs,h1,h2⟩,h3⟩:=h;obtain⟨xs,g1,g2,g3⟩:=Yb l b (off+6) h3;refine⟨⟨cs,afA h2⟩::xs,by rw[z9,z9,g1],λi c' x hc hx=>?_,λj v hj=>?_⟩
   ·cases i with
    | zero=>
      simp only[List.getElem?_cons_zero,Option.some.injEq] at hc hx;subst hc;subst hx;exact h2
    | succ i=>exact g2 i c' x (by simpa using hc) (by simpa using hx)
   ·rw[List.flatMap_cons] at hj
    have hl6:(cN (⟨cs,afA h2⟩:rE 6)).length=6:=abQ _;by_cases h6:j<6
    ·rw[z20 (by rw[hl6];exact h6)] at hj
     exact h1 j v hj
    ·rw[z21 (by rw[hl6];omega),hl6] at hj
     have:=g3 (j - 6) v hj;rwa [show off+6+(j - 6)=off+j by omega] at this
theorem Yc{w:World}{F:Nat->Prop}{l:List aT}{A:Option Addr}{n:Nat}(h:jO w F l A n):∃xs:List (rE 6),xs.length=n/\(∀(i:Nat) c x,l[i]?=some c->xs[i]?=some x->dA w F c x.1)/\Src w 6 A n (xs.flatMap cN)/\(∀b off,A=some ⟨b,off,none⟩->0<n->F b):=by
 rcases Nat.eq_zero_or_pos l.length with h0 | h0
 ·have hl:l=[]:=List.eq_nil_of_length_eq_zero h0
  subst hl;have hn:n=0:=h.1;subst hn;exact⟨[],rfl,λi c x hc=>by simp at hc,Src.empty _ _ _,λ_ _ _ h=>by omega⟩
 ·obtain⟨b,off,hA,hb,hr⟩:=h.2 h0
  obtain⟨xs,g1,g2,g3⟩:=Yb l b off hr;refine⟨xs,by rw[g1,h.1],g2,⟨by rw[tX abQ,g1,h.1],λ_=>⟨b,off,hA,g3⟩⟩,λb' off' e _=>?_⟩;rw[hA] at e;simp only[Option.some.injEq,Addr.mk.injEq] at e;rw[<-e.1];exact hb
theorem Src.aqA{w w':World}{sz:Nat}{A:Option Addr}{m:Nat}{news:List Value}{B:Nat}(h:Src w sz A m news)(hb:Below B w w')(hA:∀b off,A=some ⟨b,off,none⟩->0<m->b<B):Src w' sz A m news:=
 ⟨h.1,λhp=>by
  obtain⟨b,off,e,hc⟩:=h.2 hp
  exact⟨b,off,e,hc.keep (hb.block b (hA b off e hp))⟩⟩
theorem an6(n:Nat)(hn:n<1000000)(w:World):Calls Tryz.prog 225 #[.slice none 0 0,.int .i64 (n:Int)] w λe w'=>∃v,e= .returned v/\ax w' w.heap.size 26 6 cN ([]:List (rE 6)) v/\Bw w w':=by
 rcases Nat.eq_zero_or_pos n with h0 | h0
 ·subst h0
  refine Calls.mono (P:=Tryz.prog) (f:=225) (Any8.slices_Grow_room Tryz.agP none 0 0 0 w zO zO zO zO) ?_;rintro e w' ⟨rfl,rfl⟩;exact⟨_,rfl,ax.nil _ _ _ _ _,Below.refl _ _⟩
 ·obtain⟨ht,i,hi,hz,bY,nP,ry,hp,-⟩:=tyC
  refine Calls.mono (P:=Tryz.prog) (f:=225) (Any8.slices_Grow_grow Tryz.agP i _ hi hz (by rw[bY];exact hp) none 0 0 n [] w zO zO (by rw[nP];omega) zO zP (λ_=>rfl) (λa h=>by cases h)) ?_;rintro e w' ⟨rfl,rfl⟩;have hG:=grownCap_ge w (0+n) 0 (Tryz.LG.t 25);have hm:=grownCap_le_maxLen w (0+n) 0 (Tryz.LG.t 25) (by unfold maxLen;omega);refine⟨_,rfl,⟨zP,.inr ⟨w.heap.size,_,_,rfl,zR _,World.alloc_heap_new w.drew _,Nat.zero_le _,hm,?_,zP⟩⟩,?_⟩
  ·have key:∀G,0+n<=G->0+(0+n - 0)*6+(G - (0+n))*6=G*6:=λG h=>by omega
   simp only[Array.size_append,size_zeroCells,ry,List.size_toArray,z24];exact key _ hG
  ·exact(show Bw w w.drew from ⟨rfl,rfl,rfl,zR _,λ_ _=>rfl⟩).alloc zP _
theorem aip(ex ar:List aT)(A1:Option Addr)(n1 c1:Nat)(A2:Option Addr)(n2 c2:Nat)(g:Nat)(w:World)(F:Nat->Prop)(h1:jO w F ex A1 n1)(h2:jO w F ar A2 n2)(hF:∀q,F q->q<w.heap.size)(hg:w.heap[g]?=some (.cells #[.slice A1 n1 c1,.slice A2 n2 c2] 24))(hn:n1+n2<1000000):
 Calls Tryz.prog 192 #[.slice (some ⟨g,0,none⟩) 2 2] w λe w'=>∃v,∃xs:List (rE 6),e= .returned v/\ax w' w.heap.size 26 6 cN xs v/\xs.length=ex.length+ar.length/\(∀(i:Nat) c x,(ex++ar)[i]?=some c->xs[i]?=some x->dA w F c x.1)/\Bw w w':=by
 obtain⟨xs,x1,x2,x3,x4⟩:=Yc h1;obtain⟨ys,y1,y2,y3,y4⟩:=Yc h2;have qw:=h1.1;have lW:=h2.1;have q0:=dw hg
 have UI:∀W,(Instr.indexAt 258 (.slice (some ⟨g,0,none⟩) 2 2) (.int .i64 0)).run Tryz.prog W= .ok (.pointer (some ⟨g,0,none⟩)) W:=λW=>by
  have e:=dN (P:=Tryz.prog) 258 24 1 Tryz.underlying258 (λw=>by kernel_rfl) (rfl:(some ⟨g,0,none⟩:Option Addr)=some ⟨g,0,none⟩) 2 2 0 zD W;exact e
 have hi1:∀W,(Instr.indexAt 258 (.slice (some ⟨g,0,none⟩) 2 2) (.int .i64 1)).run Tryz.prog W= .ok (.pointer (some ⟨g,1,none⟩)) W:=λW=>by
  have e:=dN (P:=Tryz.prog) 258 24 1 Tryz.underlying258 (λw=>by kernel_rfl) (rfl:(some ⟨g,0,none⟩:Option Addr)=some ⟨g,0,none⟩) 2 2 1 zD W;exact e
 have bI:IntKind.i64.wrap ((n1:Int))=(n1:Int):=by rw[IntKind.wrap_i64];omega
 have Su:∀(i:Nat) (c:aT) (x:rE 6),(ex++ar)[i]?=some c->(xs++ys)[i]?=some x->dA w F c x.1:=λi c x hc hx=>by
  rw[List.getElem?_append] at hc hx;by_cases hi:i<ex.length
  ·rw[if_pos hi] at hc
   rw[if_pos zO] at hx;exact x2 i c x hc hx
  ·rw[if_neg hi] at hc
   rw[if_neg zO] at hx;have e1:i - xs.length=i - ex.length:=(by omega);rw[e1] at hx;exact y2 _ c x hc hx
 have ah4:=zH Su;have HX:=zH x3;have HY:=zH y3;have Pq:=zH x1;have HY1:=zH y1;have HL1:=zH qw;have JA:=zH lW;have HXB:Hid (∀b off,A1=some ⟨b,off,none⟩->0<n1->b<w.heap.size):=zH λb off e h=>hF _ (x4 b off e h);have HYB:Hid (∀b off,A2=some ⟨b,off,none⟩->0<n2->b<w.heap.size):=zH λb off e h=>hF _ (y4 b off e h);have HG:=zH hg;clear Su x3 y3 x1 y1 qw lW x2 y2 x4 y4 h1 h2 hF hg;go_enter Tryz.func192,Tryz.ntmps192;go_wp2_with fail
 go_loopw [11,3] (λUQ s3 W=>W=w/\((UQ= .int .i64 0/\s3= .int .i64 0)\/(UQ= .int .i64 1/\s3= .int .i64 n1)\/(UQ= .int .i64 2/\s3= .int .i64 ((n1+n2:Nat):Int))))
  (λUQ _ _=>2 - (intOf UQ).toNat)
 case atStart=>exact⟨rfl,.inl ⟨rfl,rfl⟩⟩
 case round=>
  obtain⟨hW,aiq⟩:=hrel;subst hW
  rcases aiq with ⟨rfl,rfl⟩ | ⟨rfl,rfl⟩ | ⟨rfl,rfl⟩
  ·have gJ:decide ((n1:Int)<0)=false:=decide_eq_false zO
   go_wp2_with fail;go_roundw
   case rel=>exact⟨by first | rfl | trivial,.inr (.inl ⟨rfl,by go_num⟩)⟩
   case measure=>simp[intOf]
  ·have gJ:decide ((n1:Int)+(n2:Int)<0)=false:=decide_eq_false zO
   go_wp2_with fail;go_roundw
   case rel=>exact⟨by first | rfl | trivial,.inr (.inr ⟨rfl,by go_num⟩)⟩
   case measure=>simp[intOf]
  ·obtain⟨wo,X3⟩:=zE wr
   subst X3;have JQ:=zH (an6 (n1+n2) hn wo)
   go_wp2_with (go_at_call 225;refine JQ.out.mono ?_;rintro e w2 ⟨v2,rfl,rO,ag⟩;have DZ:=zH rO;have DU:=zH ag;clear rO ag)
   go_loopw [27,6] (λs27 s6 W=>∃zs:List (rE 6),ax W wo.heap.size 26 6 cN zs s6/\Bw wo W/\((s27= .int .i64 0/\zs=[])\/(s27= .int .i64 1/\zs=xs)\/(s27= .int .i64 2/\zs=xs++ys)))
    (λs27 _ _=>2 - (intOf s27).toNat)
   case atStart=>exact⟨_,DZ.out,DU.out,.inl ⟨rfl,rfl⟩⟩
   case round=>
    obtain⟨zs,dV,mr,aiq⟩:=hrel;clear q0;have q0:=dw (ae HG.out mr)
    rcases aiq with ⟨rfl,hz⟩ | ⟨rfl,hz⟩ | ⟨rfl,hz⟩<;>rw[hz] at dV<;>clear hz
    ·have hs:=HX.out.aqA mr HXB.out
     have FO:=zH mr;clear mr
     go_wp2_with (at_builtin;refine Am rfl (.tmp 31) (.tmp 32) 24 rfl tyC ajp wo.heap.size [] xs _ rfl dV A1 n1 c1 rfl hs Pq.out.symm (by simp;omega) FO.out.size ?_;intro v1 u1 uz ai)
     go_roundw
     case rel=>exact⟨xs,by simpa using uz,FO.out.trans ai,.inr (.inl ⟨rfl,rfl⟩)⟩
     case measure=>simp[intOf]
    ·have hs:=HY.out.aqA mr HYB.out
     have FO:=zH mr;clear mr
     go_wp2_with (at_builtin;refine Am rfl (.tmp 31) (.tmp 32) 24 rfl tyC ajp wo.heap.size xs ys _ rfl dV A2 n2 c2 rfl hs HY1.out.symm (by rw[Pq.out];omega) FO.out.size ?_;intro v1 u1 uz ai)
     go_roundw
     case rel=>exact⟨xs++ys,uz,FO.out.trans ai,.inr (.inr ⟨rfl,rfl⟩)⟩
     case measure=>simp[intOf]
    ·obtain⟨A3,c3,rfl⟩:=dV.form
     go_wp2_with fail;go_ret;exact⟨_,xs++ys,rfl,dV,by rw[z5,Pq.out,HY1.out,HL1.out,JA.out],ah4.out,mr⟩
end Go.Proofs.YtgmnnegfndpakaaGreatDoor
