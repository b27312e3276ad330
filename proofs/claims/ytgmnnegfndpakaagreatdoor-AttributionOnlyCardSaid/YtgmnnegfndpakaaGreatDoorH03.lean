import Derived.Test.YtgmnnegfndpakaaGreatDoorH01
import Derived.WalkSpells
import Derived.WalkLawsBesides
import Derived.BigGuardPart
import Derived.Deep.QuietTactic
import Derived.BigQuiet
import Derived.StillTailTactics
import Derived.Deep.DeepCutAuto
import Derived.Deep.CutBlock
import Derived.Laws.EntriesVeiled
import Derived.Maps.AppendAt
import Derived.Shelf.SlSortCmp.QuietGrown
set_option maxHeartbeats 20000000
set_option maxRecDepth 100000
namespace Go.Proofs.YtgmnnegfndpakaaGreatDoor
open Go.RowKit Go.Proofs.Tryz
variable{α:Type}{w w':World}{F:Nat->Prop}{A:Option Addr}{n i sz base bytes g r nn R:Nat}{e:TypeId}{v z:Value}{P:Program}{xs:List Value}{ops:Array Oper}{rest:List Oper}{o:Oper}{a:Act}{Q:Exit->Act->World->Prop}{c ch:aT}{p:Prop}{l:List α}{cells:α->List Value}
abbrev Nm:=ByteArray×ByteArray
def dK(x:Nm):List Value:=[x.1,x.2]
def mG(s:ByteArray):List Value:=[s]
def ET(x:Bool):List Value:=[x]
def aY(w:World)(F:Nat->Prop)(sz:Nat)(cells:α->List Value)(l:List α)(A:Option Addr)(n:Nat):Prop:=
 n=l.length/\(0<l.length->∃b off,A=some ⟨b,off,none⟩/\F b/\∀i x,l[i]?=some x->cu w b (off+i*sz) (cells x))
section
variable {α:Type} {w w':World} {F F':Nat->Prop} {sz:Nat} {cells:α->List Value} {l:List α} {A:Option Addr} {n B:Nat}
theorem aY.len(h:aY w F sz cells l A n):n=l.length:=h.1
theorem aY.keep(h:aY w F sz cells l A n)(hF:∀b,F b->F' b/\w'.heap[b]?=w.heap[b]?):aY w' F' sz cells l A n:=
 ⟨h.1,λhp=>let ⟨b,off,hA,hb,hc⟩:=h.2 hp;⟨b,off,hA,(hF b hb).1,λi x hx=>(hc i x hx).keep (hF b hb).2⟩⟩
theorem aY.below(h:aY w (· <B) sz cells l A n)(hb:Below B w w'):aY w' (· <B) sz cells l A n:=h.keep λb rX=>⟨rX,hb.block b rX⟩
theorem aY.here(h:aY w F sz cells l A n)(dD:∀x:α,cells x≠[]):aY w (· <w) sz cells l A n:=by
 refine⟨h.1,λhp=>?_⟩;obtain⟨b,off,hA,hb,hc⟩:=h.2 hp;refine⟨b,off,hA,?_,hc⟩;have h0:l[0]?=l[0]'hp:=Jl hp;have jw:=hc 0 _ h0
 cases hv:cells (l[0]'hp) with
 | nil=>exact absurd hv (dD _)
 | cons v vs=>rw[hv] at jw;exact jw.lt
theorem aY.nil(w:World)(F:Nat->Prop)(sz:Nat)(cells:α->List Value)(A:Option Addr):aY w F sz cells [] A 0:=⟨rfl,λh=>by simp at h⟩
theorem aY.at_(h:aY w F sz cells l A n){i:Nat}(hi:i<n):∃b off x,A=some ⟨b,off,none⟩/\l[i]?=some x/\cu w b (off+i*sz) (cells x):=by
 obtain⟨hn,h⟩:=h;obtain⟨b,off,hA,_,hc⟩:=h zO;have hx:l[i]?=l[i]'(by omega):=Jl zO;exact⟨b,off,_,hA,hx,hc i _ hx⟩
end
theorem Iu(x:Nm):dK x≠[]:=by simp[dK]
theorem aY.name{l:List Nm}(h:aY w F 2 dK l A n)(hi:i<n)(c:Nat):
 ∃b off x y,Hid (l[i]?=some (x,y))/\w.cell? ⟨b,off+i*2,none⟩=some (.string x)/\w.cell? ⟨b,off+i*2+1,none⟩=some (.string y)/\
  ∀W,(Instr.indexAt 37 (A,n,c) i).run prog W= .ok (.pointer (some ⟨b,off+i*2,none⟩)) W:=by
 obtain⟨b,off,⟨x,y⟩,hA,hx,hc⟩:=h.at_ hi;exact⟨b,off,x,y,Lib.hid hx,hc 0 _ rfl,hc 1 _ rfl,dN (P:=prog) 37 23 2 underlying37 (λw=>by kernel_rfl) hA n c i hi⟩
theorem aY.str{l:List ByteArray}(h:aY w F 1 mG l A n)(hi:i<n)(c:Nat):
 ∃b off x,Hid (l[i]?=some x)/\w.cell? ⟨b,off+i,none⟩=some (.string x)/\
  ∀W,(Instr.indexAt 47 (A,n,c) i).run prog W= .ok (.pointer (some ⟨b,off+i,none⟩)) W:=by
 obtain⟨b,off,x,hA,hx,hc⟩:=h.at_ hi;have h1:=dN (P:=prog) 47 9 1 underlying47 (λw=>by kernel_rfl) hA n c i hi;have h2:w.cell? (b,off+i*1+0)=x:=hc 0 _ rfl;simp only[Nat.mul_one,Qf] at h1 h2;exact⟨b,off,x,Lib.hid hx,h2,h1⟩
theorem aY.bool{l:List Bool}(h:aY w F 1 ET l A n)(hi:i<n)(c:Nat):
 ∃b off x,Hid (l[i]?=some x)/\w.cell? ⟨b,off+i,none⟩=some (.bool x)/\
  ∀W,(Instr.indexAt 48 (A,n,c) i).run prog W= .ok (.pointer (some ⟨b,off+i,none⟩)) W:=by
 obtain⟨b,off,x,hA,hx,hc⟩:=h.at_ hi;have h1:=dN (P:=prog) 48 4 1 underlying48 (λw=>by kernel_rfl) hA n c i hi;have h2:w.cell? (b,off+i*1+0)=x:=hc 0 _ rfl;simp only[Nat.mul_one,Qf] at h1 h2;exact⟨b,off,x,Lib.hid hx,h2,h1⟩
def ru:List Nm->ByteArray->ByteArray->Bool
 | [],_,_=>false
 | x::l,a,b=>(eqS x.1 a&&eqS x.2 b)||ru l a b
theorem Nr(l:List Nm)(a b:ByteArray):ru l a b=true↔(a,b)∈l:=by
 induction l with
 | nil=>simp[ru]
 | cons x l ih=>
   obtain⟨x1,x2⟩:=x;simp only[ru,Bool.or_eq_true,Bool.and_eq_true,iV,ih,List.mem_cons,Prod.mk.injEq];exact⟨λh=>h.imp (λ⟨e,f⟩=>⟨e.symm,f.symm⟩) id,λh=>h.imp (λ⟨e,f⟩=>⟨e.symm,f.symm⟩) id⟩
section
variable {P:Program}
def Src(w:World)(sz:Nat)(A:Option Addr)(m:Nat)(news:List Value):Prop:=news.length=m*sz/\(0<m->∃b off,A=some ⟨b,off,none⟩/\cu w b off news)
theorem Src.empty(w:World)(sz:Nat)(A:Option Addr):Src w sz A 0 []:=⟨by simp,λh=>absurd h zO⟩
theorem Src.keep{w w':World}{sz:Nat}{A:Option Addr}{m:Nat}{news:List Value}{B:Nat}(h:Src w sz A m news)(hb:Below B w w')(hA:∀b off,A=some ⟨b,off,none⟩->b<B):Src w' sz A m news:=
 ⟨h.1,λhm=>let ⟨b,off,e,hc⟩:=h.2 hm;⟨b,off,e,hc.keep (hb.block b (hA b off e))⟩⟩
theorem ajc(b off j:Nat):((b,off):Addr).add j=(b,off+j):=by
 unfold Addr.add
 split
 ·simp
 rfl
theorem TD(w:World)(base:Nat)(t ty e:TypeId)(i:TypeInfo)(z:Value)(size bytes:Nat)(ht:P.underlying t=some (.slice e))(hi:P.info? e=i)(hz:i.zero=z)
 (mP:i.size=size) (nP:i.bytes=bytes) (ry:z.cells.size=size) (bY:0<size) (v:Value) (n:Nat) (xs:List Value) (dV:w.ownsRow base e size v n xs)
 (A:Option Addr) (m c:Nat) (news:List Value) (hr:Src w size A m news) (h1:∀u∈news,u.oneCell'=true) (rY:n+m<4000000) (xZ:bytes<=1000) (eY:base<=w):
 ∃v' w',(Builtin.append_ #[t,t] ty #[v,(A,m,c)]).run P w= .ok v' w'/\w'.ownsRow base e size v' (n+m) (xs++news)/\w.grownBy w' v.ownBlock/\(v'.ownBlock=v.ownBlock\/v'.ownBlock=some w.heap.size):=by
 have hb:(n+m)*bytes<=140737488355328:=by
  have h:(n+m)*bytes<=4000000*1000:=Nat.mul_le_mul zO xZ;omega
 have hx:n+m<=maxLen:=(by unfold maxLen;omega)
 rcases Nat.eq_zero_or_pos m with h0 | h0
 ·subst h0;have hn:news=[]:=g9 (by simpa using hr.1);subst hn
  rcases A with _ | ad
  ·refine⟨v,w,?_,by simpa using dV,World.grownBy.refl w _,.inl rfl⟩
   rcases dV.2 with ⟨rfl,rfl⟩ | ⟨g,cap,cur,rfl,_,_,GK,_⟩
   ·simp[Builtin.append_,run_underlying ht,sizeOf,typeInfo,hi,Builtin.lenOf,Builtin.firstCells]
   simp[Builtin.append_,run_underlying ht,sizeOf,typeInfo,hi,Builtin.lenOf,Builtin.firstCells,GK,storeCells]
  obtain⟨v',w',bG,h2,h3,_,h5⟩:=run_append_own_at (P:=P) w base t ty e i z size bytes ht hi hz mP nP ry bY v n xs dV ad 0 c [] hr.1 zS4 h1 hx hb eY;exact⟨v',w',bG,h2,h3,h5⟩
 obtain⟨b,off,rfl,hc⟩:=hr.2 h0;obtain⟨v',w',bG,h2,h3,_,h5⟩:=run_append_own_at (P:=P) w base t ty e i z size bytes ht hi hz mP nP ry bY v n xs dV (b,off) m c news hr.1 (λj u hu=>by rw[ajc];exact hc j u hu) h1 hx hb eY;exact⟨v',w',bG,h2,h3,h5⟩
theorem ag5{ops:Array Oper}{rest:List Oper}{o:Oper}{a:Act}{Q:Exit->Act->World->Prop}{w:World}(uO:o.guard=none)(s x:Operand)(t:TypeId)
 (ho:o.op= .call { callee:=.builtin .append,args:=#[s,x],argTypes:=#[t,t] }) (base:Nat) (e:TypeId) (i:TypeInfo) (z:Value) (size bytes:Nat) (ht:P.underlying t=some (.slice e)) (hi:P.info? e=i) (hz:i.zero=z)
 (mP:i.size=size) (nP:i.bytes=bytes) (ry:z.cells.size=size) (bY:0<size) (v:Value) (n:Nat) (xs:List Value) (hs:a.eval s=v) (dV:w.ownsRow base e size v n xs)
 (A:Option Addr) (m c:Nat) (news:List Value) (hx:a.eval x= (A,m,c)) (hr:Src w size A m news) (h1:∀u∈news,u.oneCell'=true) (rY:n+m<4000000) (xZ:bytes<=1000) (eY:base<=w)
 (h:∀v' w',w'.ownsRow base e size v' (n+m) (xs++news)->w.grownBy w' v.ownBlock->(v'.ownBlock=v.ownBlock\/v'.ownBlock=some w.heap.size)->wpList P ops Q rest (a.put o.dst v') w'):wpList P ops Q (o::rest) a w:=
 wpList_plain uO λK hK=>by
  obtain⟨v',w',bG,h2,h3,h4⟩:=TD (P:=P) w base t o.type e i z size bytes ht hi hz mP nP ry bY v n xs dV A m c news hr h1 rY xZ eY;unfold Oper.wp execOp;simp only[ho,resolve,invoke,builtin,Sem.run_bind,Sem.run_pure,Result.andThen_ok,List.map_toArray,Jm,List.map_nil,hs,hx,bG];exact hK _ _ (h v' w' h2 h3 h4)
theorem add_zero'(a:Addr):a.add 0=a:=by simp[Addr.add]
theorem map_add_zero(A:Option Addr):A.map (·.add 0)=A:=by cases A<;>simp[add_zero']
theorem abI{e:TypeId}{i:TypeInfo}(hi:P.info? e=i)(w:World):(sizeOf e).run P w= .ok i.size w:=by simp[sizeOf,typeInfo,hi]
theorem ajd{ops:Array Oper}{rest:List Oper}{a:Act}{Q:Exit->Act->World->Prop}{w:World}{o:Oper}(uO:o.guard=none)(x hi:Operand)(t:TypeId)(ho:o.op= .slice t x none (some hi) none)
 (e:TypeId) (i:TypeInfo) (ht:P.underlying t=some (.slice e)) (oO:P.info? e=i) (A:Option Addr) (n c k:Nat) (hx:a.eval x= (A,n,c)) (hh:a.eval hi= k) (hk:k<=c)
 (h:wpList P ops Q rest (a.put o.dst (A,k,c)) w):wpList P ops Q (o::rest) a w:=
 wpList_plain uO λK hK=>by
  have E8:P.underlying t=some (.slice (P.elem t)):=(by simp[Program.elem,ht]);have he:P.elem t=e:=(by simp[Program.elem,ht])
  have bG:(Instr.sliceAt t (A,n,c) none (some k) none).run P w= .ok (A,k,c) w:=by
   rw[run_sliceAt_slice (w:=w) (t:=t) (h:=E8),run_slice_h (ht:=E8) (h:=(k:Int)) (h0:=by omega) (h2:=by omega),he,abI oO];simp[Result.andThen,sliced,map_add_zero]
  unfold Oper.wp execOp;simp only[ho,Option.map_some,Option.map_none,hx,hh,Sem.run_bind,Sem.run_pure,bG,Result.andThen_ok];exact hK _ _ h
theorem aje{ops:Array Oper}{rest:List Oper}{a:Act}{Q:Exit->Act->World->Prop}{w:World}{o:Oper}(uO:o.guard=none)(x lo:Operand)(t:TypeId)(ho:o.op= .slice t x (some lo) none none)
 (e:TypeId) (i:TypeInfo) (ht:P.underlying t=some (.slice e)) (oO:P.info? e=i) (sz:Nat) (bY:i.size=sz) (A:Option Addr) (n c k:Nat) (hx:a.eval x= (A,n,c)) (hh:a.eval lo= k) (hk:k<=n)
 (h:wpList P ops Q rest (a.put o.dst ((if c=k then A else A.map (·.add (k*sz))),n - k,c - k)) w):wpList P ops Q (o::rest) a w:=
 wpList_plain uO λK hK=>by
  have E8:P.underlying t=some (.slice (P.elem t)):=(by simp[Program.elem,ht]);have he:P.elem t=e:=(by simp[Program.elem,ht])
  have bG:(Instr.sliceAt t (A,n,c) (some k) none none).run P w= .ok ((if c=k then A else A.map (·.add (k*sz))),n - k,c - k) w:=by
   rw[run_sliceAt_slice (w:=w) (t:=t) (h:=E8),run_slice_l (ht:=E8) (l:=(k:Int)) (h0:=by omega) (h1:=by omega),he,abI oO];simp[Result.andThen,sliced,bY]
  unfold Oper.wp execOp;simp only[ho,Option.map_some,Option.map_none,hx,hh,Sem.run_bind,Sem.run_pure,bG,Result.andThen_ok];exact hK _ _ h
end
theorem info24:(prog.info? 23).map (λi=>(i.zero,i.size,i.bytes))=some (some (.agg #[.string ⟨#[]⟩,.string ⟨#[]⟩]),2,32):=by kernel_rfl
theorem info9:(prog.info? 9).map (λi=>(i.zero,i.size,i.bytes))=some (some (.string ⟨#[]⟩),1,16):=by kernel_rfl
theorem info4:(prog.info? 4).map (λi=>(i.zero,i.size,i.bytes))=some (some (.bool false),1,1):=by kernel_rfl
theorem arQ:(prog.info? 26).map (λi=>(i.zero,i.size,i.bytes))=some (some (.agg #[.int .i64 0,.string ⟨#[]⟩,.string ⟨#[]⟩,.string ⟨#[]⟩,.slice none 0 0,.slice none 0 0]),6,104):=by kernel_rfl
def ax(w:World)(base:Nat)(e:TypeId)(sz:Nat)(cells:α->List Value)(l:List α)(v:Value):Prop:=w.ownsRow base e sz v l.length (l.flatMap cells)
theorem tX(hl:∀x,(cells x).length=sz)(l:List α):(l.flatMap cells).length=l.length*sz:=by
 induction l with
 | nil=>simp
 | cons x l ih=>rw[l4,List.length_append,hl,ih,List.length_cons,Nat.add_mul];omega
theorem flat_get(hl:∀x,(cells x).length=sz):∀(l:List α) (i j:Nat) (x:α),l[i]?=x->j<sz->(l.flatMap cells)[i*sz+j]?=(cells x)[j]?
 | [],i,j,x,h,_=>by simp at h
 | y::l,0,j,x,h,hj=>by
   obtain rfl:y=x:=(by simpa using h);rw[l4,Nat.zero_mul,d9,List.getElem?_append_left (by rw[hl];exact hj)]
 | y::l,i+1,j,x,h,hj=>by
   rw[l4,List.getElem?_append_right (by rw[hl,Nat.add_mul];omega),hl,show (i+1)*sz+j - sz=i*sz+j by rw[Nat.add_mul];omega];exact flat_get hl l i j x (by simpa using h) hj
theorem wX(x:Nm):(dK x).length=2:=rfl
theorem Ii(x:ByteArray):(mG x).length=1:=rfl
theorem ajf(l:List Nm):∀u∈l.flatMap dK,u.oneCell'=true:=by
 intro u hu;obtain⟨x,_,hx⟩:=List.mem_flatMap.1 hu;simp[dK] at hx
 rcases hx with rfl | rfl<;>rfl
theorem ari(l:List ByteArray):∀u∈l.flatMap mG,u.oneCell'=true:=by
 intro u hu;obtain⟨x,_,hx⟩:=List.mem_flatMap.1 hu;simp[mG] at hx;rw[hx];rfl
theorem ax.row(h:ax w base e sz cells l v)(hl:∀x,(cells x).length=sz)(_hsz:0<sz):
 ∃A c,v= .slice A l.length c/\aY w (λb=>base<=b/\b<w) sz cells l A l.length/\l.length<=c/\c<=maxLen:=by
 obtain⟨h1,h2⟩:=h
 rcases h2 with ⟨rfl,hn⟩ | ⟨g,cap,cur,rfl,hg,hh,GK,yg,mP,kU⟩
 ·have:l=[]:=g9 hn;subst this;exact⟨none,0,rfl,⟨rfl,λh=>by simp at h⟩,Nat.le_refl _,by unfold maxLen;omega⟩
 refine⟨_,cap,rfl,⟨rfl,λ_=>⟨g,0,rfl,⟨hg,aC hh⟩,λi x hx j v hv=>?_⟩⟩,GK,yg⟩
 have hj:j<sz:=by
  rcases i8 j sz with h | h
  ·exact h
  rw[JT (by rw[hl];exact h)] at hv;cases hv
 have jU:i<l.length:=(List.getElem?_eq_some_iff.1 hx).1
 have aN:i*sz+j<l.length*sz:=by
  have:(i+1)*sz<=l.length*sz:=Nat.mul_le_mul_right _ jU;rw[Nat.add_mul] at this;omega
 have e1:=flat_get hl l i j x hx hj;rw[<-kU,Za aN] at e1;rw[Ys w g _ _ _ _ hh,<-hv,<-e1];simp
theorem ax.nil(w:World)(base:Nat)(e:TypeId)(sz:Nat)(cells:α->List Value):ax w base e sz cells ([]:List α) ():=⟨by simp,.inl ⟨rfl,rfl⟩⟩
theorem ax.grown(h:ax w base e sz cells l v)(hk:∀k,k<w.heap.size->some k=v.ownBlock->w'.heap[k]?=w.heap[k]?):ax w' base e sz cells l v:=by
 refine⟨h.1,?_⟩
 rcases h.2 with h2 | ⟨g,cap,cur,rfl,hg,hh,r⟩
 ·exact .inl h2
 exact .inr ⟨g,cap,cur,rfl,hg,(hk g (aC hh) rfl).trans hh,r⟩
theorem aY.both(h:aY w F sz cells l A n)(hl:∀x,(cells x).length=sz)(bY:0<sz):aY w (λb=>F b/\b<w) sz cells l A n:=by
 refine⟨h.1,λhp=>?_⟩;obtain⟨b,off,hA,hb,hc⟩:=h.2 hp;refine⟨b,off,hA,⟨hb,?_⟩,hc⟩;obtain⟨x,r,rfl⟩:=List.exists_cons_of_ne_nil (List.ne_nil_of_length_pos hp);have h0:=hl x;obtain⟨v,hv⟩:∃v,(cells x)[0]?=some v:=⟨_,Jl zO⟩;exact j8 w _ (hc 0 x rfl 0 v hv)
theorem aY.imp{F':Nat->Prop}(h:aY w F sz cells l A n)(hF:∀b,F b->F' b):aY w F' sz cells l A n:=
 ⟨h.1,λhp=>let ⟨b,off,hA,hb,hc⟩:=h.2 hp;⟨b,off,hA,hF b hb,hc⟩⟩
def rC(P:Program)(t e:TypeId)(z:Value)(sz bytes:Nat):Prop:=
 P.underlying t=some (.slice e)/\∃i,P.info? e=some i/\i.zero=some z/\i.size=sz/\i.bytes=bytes/\z.cells.size=sz/\0<sz/\bytes<=1000
theorem sU{t:TypeId}(ht:P.underlying t=some (.slice e))(h:(P.info? e).map (λi=>(i.zero,i.size,i.bytes))=some (some z,sz,bytes))(hz:z.cells.size=sz)(h0:0<sz)(hb:bytes<=1000):rC P t e z sz bytes:=by
 refine⟨ht,?_⟩
 cases hi:P.info? e with
 | none=>rw[hi] at h;cases h
 | some i=>
   rw[hi] at h;simp only[Option.map_some,l5,Prod.mk.injEq] at h;exact⟨i,rfl,h.1,h.2.1,h.2.2,hz,h0,hb⟩
theorem tyN:rC prog 37 23 (.agg #[.string ⟨#[]⟩,.string ⟨#[]⟩]) 2 32:=sU zS2 info24 zS2 zD zD
theorem tyS:rC prog 47 9 (.string ⟨#[]⟩) 1 16:=sU zS2 info9 zS2 zD zD
theorem tyB:rC prog 48 4 false 1 1:=sU zS2 info4 zS2 zD zD
theorem tyC:rC prog 24 26 (.agg #[(0:Int),.string ⟨#[]⟩,.string ⟨#[]⟩,.string ⟨#[]⟩,(),()]) 6 104:=sU zS2 arQ zS2 zD zD
theorem aS(h:w.ownsRow base e sz v n xs):∀k,some k=v.ownBlock->base<=k/\k<w.heap.size:=by
 intro k hk
 rcases h.2 with ⟨rfl,_⟩ | ⟨g,cap,cur,rfl,hg,hh,_⟩
 ·simp[Value.ownBlock] at hk
 simp[Value.ownBlock] at hk;subst hk;exact⟨hg,aC hh⟩
theorem grown_below(h:w.ownsRow base e sz v n xs)(hb:base<=w)(hg:w.grownBy w' v.ownBlock):Below base w w':=
 ⟨hg.os,hg.tape,hg.output,hg.size,λk hk=>hg.block k zO (λe=>by have:=(aS h k e).1;omega)⟩
theorem ag6(uO:o.guard=none)(s x:Operand)(t:TypeId)
 (ho:o.op= .call { callee:=.builtin .append,args:=#[s,x],argTypes:=#[t,t] })      (hT:rC P t e z sz bytes)
 (h1:∀(l:List α),∀u∈l.flatMap cells,u.oneCell'=true) (base:Nat) (l l2:List α) (v:Value) (hs:a.eval s=v) (dV:ax w base e sz cells l v)
 (A:Option Addr) (m c:Nat) (hx:a.eval x= (A,m,c)) (hr:Src w sz A m (l2.flatMap cells)) (hm:m=l2.length) (rY:l.length+m<4000000) (eY:base<=w)
 (h:∀v' w',ax w' base e sz cells (l++l2) v'->w.grownBy w' v.ownBlock->(v'.ownBlock=v.ownBlock\/v'.ownBlock=some w.heap.size)->wpList P ops Q rest (a.put o.dst v') w'):wpList P ops Q (o::rest) a w:=by
 obtain⟨ht,i,hi,hz,bY,nP,ry,h0,xZ⟩:=hT;refine ag5 uO s x t ho base e i z sz bytes ht hi hz bY nP ry h0 v _ _ hs dV A m c _ hx hr (h1 l2) rY xZ eY ?_;intro v' w' h2 h3 h4;refine h v' w' ?_ h3 h4;unfold ax;rw[List.length_append,l6,<-hm];exact h2
theorem ax.fresh(h:w.heap[g]?=some (.cells #[] e (0,0)))(hg:base<=g):ax w base e sz cells ([]:List α) (g,0,0,0):=
 ⟨by simp,.inr ⟨g,0,#[],rfl,hg,h,Nat.le_refl _,by unfold maxLen;omega,by simp,by simp⟩⟩
theorem Src.block{fr:Nat×Nat}{m:Nat}{vs:List Value}(h:w.heap[g]?=some (.cells vs.toArray e fr))(hl:vs.length=m*sz):Src w sz g m vs:=
 ⟨hl,λ_=>⟨g,0,rfl,λj u hu=>by rw[Ys w g _ _ _ _ h];simpa using hu⟩⟩
theorem ax.keep(h:ax w base e sz cells l v)(hb:Below w w w'):ax w' base e sz cells l v:=
 h.grown λk hk _=>hb.block k hk
theorem ag7(uO:o.guard=none)(x hi:Operand)(t:TypeId)(ho:o.op= .slice t x none (some hi) none)
    (hT:rC P t e z sz bytes) (A:Option Addr) (n c k:Nat) (hx:a.eval x= (A,n,c)) (hh:a.eval hi= k) (hk:k<=c)
 (h:wpList P ops Q rest (a.put o.dst (A,k,c)) w):wpList P ops Q (o::rest) a w:=by
 obtain⟨ht,i,DT,_⟩:=hT;exact ajd uO x hi t ho e i ht DT A n c k hx hh hk h
theorem Wi(uO:o.guard=none)(x lo:Operand)(t:TypeId)(ho:o.op= .slice t x (some lo) none none)
    (hT:rC P t e z sz bytes) (A:Option Addr) (n c k:Nat) (hx:a.eval x= (A,n,c)) (hh:a.eval lo= k) (hk:k<=n) (A2:Option Addr) (hA:(if c=k then A else A.map (·.add (k*sz)))=A2)
 (h:wpList P ops Q rest (a.put o.dst (A2,n - k,c - k)) w):wpList P ops Q (o::rest) a w:=by
 obtain⟨ht,i,DT,_,bY,_⟩:=hT;subst hA;exact aje uO x lo t ho e i ht DT sz bY A n c k hx hh hk h
theorem Am(uO:o.guard=none)(s x:Operand)(t:TypeId)
 (ho:o.op= .call { callee:=.builtin .append,args:=#[s,x],argTypes:=#[t,t] })      (hT:rC P t e z sz bytes)
 (h1:∀(l:List α),∀u∈l.flatMap cells,u.oneCell'=true) (base:Nat) (l l2:List α) (v:Value) (hs:a.eval s=v) (dV:ax w base e sz cells l v)
 (A:Option Addr) (m c:Nat) (hx:a.eval x= (A,m,c)) (hr:Src w sz A m (l2.flatMap cells)) (hm:m=l2.length) (rY:l.length+m<4000000) (eY:base<=w)
 (h:∀v' w',ax w' base e sz cells (l++l2) v'->Below base w w'->wpList P ops Q rest (a.put o.dst v') w'):wpList P ops Q (o::rest) a w:=
 ag6 uO s x t ho hT h1 base l l2 v hs dV A m c hx hr hm rY eY λv' w' h2 h3 _=>h v' w' h2 (grown_below dV eY h3)
theorem aY.src(h:aY w F sz cells l A n)(hl:∀x,(cells x).length=sz)(bY:0<sz)(m:Nat)(hm:m<=n):Src w sz A m ((l.take m).flatMap cells):=by
 obtain⟨hn,hr⟩:=h;refine⟨by rw[tX hl,Ju];congr 1;omega,λh0=>?_⟩;obtain⟨b,off,rfl,_,hc⟩:=hr zO;refine⟨b,off,rfl,λj u hu=>?_⟩
 have hj:j<m*sz:=by
  have:=(List.getElem?_eq_some_iff.1 hu).1;rw[tX hl,Ju,Nat.min_eq_left zO] at this;exact this
 have hq:j / sz<m:=(Nat.div_lt_iff_lt_mul bY).2 hj;have hr:j % sz<sz:=Nat.mod_lt _ bY;have e:j=j / sz*sz+j % sz:=(Nat.div_add_mod' j sz).symm;have hx:l[j / sz]?=l[j / sz]'(by omega):=Jl zO;have hx':(l.take m)[j / sz]?=l[j / sz]'(by omega):=(by rw[Za hq,hx]);rw[e,flat_get hl _ _ _ _ hx' hr] at hu;have:=hc _ _ hx _ _ hu;rwa [Nat.add_assoc,<-e] at this
structure Since (w:World) where
 wld:World
 below:Bw w wld
instance (w:World):Inhabited (Since w):=⟨⟨w,j9 _ _⟩⟩
theorem yh{id:Nat}{l:List Oper}(hm:P.follows .mixedOrders=true)(hB:Region.lexB .any l.toArray=true)
 (h:wpQuiet P l.toArray (λw'=>∃p:Since w,w'=p.wld) (λa'=>∀w',(∃p:Since w,w'=p.wld)->Q .normal a' w') l a):(Code.region id l.toArray true).wp P Q a w:=
 wp_region_quiet (C:=λw'=>∃p:Since w,w'=p.wld) hm hB ⟨⟨w.drew,⟨rfl,rfl,rfl,zR _,λ_ _=>rfl⟩⟩,rfl⟩ (by simpa using h)
theorem Eo{f:FuncId}{args:Array Value}{p:Since w}
 (h:Calls P f args p.wld λe w'=>e= .returned v/\Below p.wld p.wld w'):Calls P f args p.wld λe w''=>e= .returned v/\∃q:Since w,w''=q.wld:=
 h.mono λ_ w' ⟨he,hb⟩=>⟨he,⟨w',p.below.seq hb⟩,rfl⟩
theorem Since.cell{a:Addr}(h:w.cell? a=v)(p:Since w):p.wld.cell? a=v:=(p.below.cell (j8 w a h)).trans h
theorem Since.row(h:aY w F sz cells l A n)(dD:∀x:α,cells x≠[])(p:Since w):aY p.wld (· <w) sz cells l A n:=(h.here dD).below p.below
theorem Since.rep{cs:List Value}(h:dA w F c cs)(p:Since w):dA p.wld (· <w) c cs:=h.here.below p.below
theorem Ap(h:∃p:Since w,w'=p.wld):Bw w w':=by
 obtain⟨p,rfl⟩:=h;exact p.below
mutual
def vk:aT->ByteArray->ByteArray->Bool
 | .mk k ns nl s ex ar,a,b=>!inH ex a b&&(if k=1 then eqS ns a&&eqS nl b else if k=2 then eqS s a else if k=3 then true else Cm ar a b)
def inH:List aT->ByteArray->ByteArray->Bool
 | [],_,_=>false
 | c::_,a,b=>vk c a b
def Cm:List aT->ByteArray->ByteArray->Bool
 | [],_,_=>false
 | c::l,a,b=>vk c a b||Cm l a b
end
theorem Nv{l:List aT}{a b:ByteArray}(h:l[i]?=ch):Cm (l.drop i) a b=(vk ch a b||Cm (l.drop (i+1)) a b):=by
 obtain⟨hi,rfl⟩:=z4.1 h;rw[nZ hi,Cm]
theorem av5 (h:p:=by
 obtain⟨b',off,ch,v0,v1,v2,v3,v4,v5,HX,kP,p0,p1,p2,p3,p4,p5,dO⟩:=h2.round Nw aN c';have hd:=zT1 (i<n');go_wp2_with fail
 go_still_tail 6,zK
 change wpList _ _ _ _ _ wr.drew;go_wp2_with fail;refine (HA ch (qN HX) _ _ _ kP.drew).mono ?_;rintro e3 w3 ⟨rfl,az⟩
 cases hv:vk ch a b with
 | true=>
   have vw:=zH hv;clear hv;go_wp2_with fail;go_ret;exact⟨aK (by rw[Ff.out,HL.out,Nv HX,vw.out];rfl),Nw.trans ((Below.xY az).mono Nw.size)⟩
 | false=>
   have vw:=zH hv;clear hv;go_wp2_with fail;go_roundw
   case rel=>exact⟨i+1,zO,by go_num,zH (by rw[HL.out,Nv HX,vw.out];rfl),dU.trans ((Below.xY az).mono dU.size)⟩
   simp[intOf];omega):p:=h
theorem av7 (h:p:=by
 have hd:=zT2 (i<n');go_wp2_with fail;go_ret
 exact⟨aK (by rw[Ff.out,HL.out,z14 (by have:=h2.len;omega)];rfl),Nw⟩):p:=h
theorem arS(a b:ByteArray)(c:aT):∀(cs:List Value) (w:World) (F:Nat->Prop),dA w F c cs->
 Rt 157 #[.agg cs.toArray,.agg #[a,b]] w (vk c a b):=by
 induction c using aT.ind with
 | _ k ns nl s ex ar Jv iha=>
   intro cs w F hr0;obtain⟨A,n,c,A',n',c',rfl,hl,zS,h1,h2⟩:=hr0.here.form;obtain⟨HE,HA⟩:=zJ2 Jv iha;clear Jv iha hr0;have heq:=nO;have hes:=Yl;obtain⟨vh,hvh⟩:=zF (inH ex a b);have HR:Hid (vk (.mk k ns nl s ex ar) a b=(!vh&&(if k=1 then eqS ns a&&eqS nl b else if k=2 then eqS s a else if k=3 then true else Cm ar a b))):=(by rw[vk,hvh];exact rfl);have HV:=zH hvh;clear hvh;obtain⟨w1,bI,ai,ag,bY,aH⟩:=ed w (Zc #[k,ns,nl,s,(A,n,c),(A',n',c')] 26) (Zc #[a,b] 23);obtain⟨H1,H2⟩:=zJ2 ai ag;clear ai ag;go_enter func157,ntmps157;go_wp2_with fail;have HW:=zH bI;clear bI
   cases ex with
   | nil=>
     obtain⟨q0,q1,q2,q3,q4,q5⟩:=gG H1;obtain⟨n0,n1⟩:=dw H2;have hv:vh=false:=(by rw[<-HV.out];rfl);subst hv;obtain rfl:n=0:=h1.len
     go_quiet (fail)
     rcases apg k with hk | ⟨hk,dm⟩ | ⟨hk,dm,bW⟩ | ⟨hk,dm,bW⟩
     ·go_wp2_with fail;go_ret;exact⟨aK (by rw[HR.out,j6 (by simpa using hk)];rfl),aH.drewN _⟩
     ·go_wp2_with fail;go_ret;exact⟨aK (by rw[HR.out,j5 (by simpa using hk),j6 (by simpa using dm)];rfl),aH.drewN _⟩
     ·go_wp2_with fail;go_ret;exact⟨aK (by rw[HR.out,j5 (by simpa using hk),j5 (by simpa using dm),j6 (by simpa using bW)];rfl),aH.drewN _⟩
     go_wp2_with fail;have Ff:Hid (vk (.mk k ns nl s [] ar) a b=Cm ar a b):=(by rw[HR.out,j5 (by simpa using hk),j5 (by simpa using dm),j5 (by simpa using bW)];exact rfl);clear q0 q1 q2 q3 q4 q5 n0 n1
     go_loopw [5] (λsi wr=>∃i:Nat,i<=n'/\si= i/\Hid (Cm ar a b=Cm (ar.drop i) a b)/\Bw w1 wr)
      (λsi _=>n' - (intOf si).toNat)
     case atStart=>exact⟨0,zO,rfl,zH rfl,(j9 _ _).drewN _⟩
     obtain⟨i,hi,rfl,HL,dU⟩:=hrel;have Nw:Bw w wr:=aH.seq dU;obtain⟨q0,q1,q2,q3,q4,q5⟩:=gG ((dU.block _ zO).trans H1);obtain⟨n0,n1⟩:=dw ((dU.block _ zO).trans H2);clear q0 q1 q2 q3 q4;by_cases aN:i<n'
     ·exact av5
     exact av7
   | cons e ex=>
     obtain⟨q0,q1,q2,q3,q4,q5⟩:=gG H1;obtain⟨n0,n1⟩:=dw H2;obtain⟨b',off,v0,v1,v2,v3,v4,v5,kP,p0,p1,p2,p3,p4,p5,kD,dO⟩:=h1.first aH c
     go_still_tail 10,zK
     change wpList _ _ _ _ _ w1.drew;go_wp2_with fail;refine (HE e List.mem_cons_self _ _ _ kP.drew).mono ?_;rintro e2 w2 ⟨rfl,ag⟩;have hv:vh=vk e a b:=(by rw[<-HV.out];rfl);have mX:=Below.xY ag;have aHP:=mX.size;have abL:=aH.seq mX;clear q0 q1 q2 q3 q4 q5 n0 n1 p0 p1 p2 p3 p4 p5 dO ag;obtain⟨q0,q1,q2,q3,q4,q5⟩:=gG ((mX.block _ zO).trans H1);obtain⟨n0,n1⟩:=dw ((mX.block _ bY).trans H2)
     cases hve:vk e a b with
     | true=>
       rw[hve] at hv;subst hv;clear hve;go_wp2_with fail;go_ret;exact⟨aK (by rw[HR.out];rfl),abL⟩
     | false=>
       rw[hve] at hv;subst hv;clear hve
       rcases apg k with hk | ⟨hk,dm⟩ | ⟨hk,dm,bW⟩ | ⟨hk,dm,bW⟩
       ·go_wp2_with fail;go_ret;exact⟨aK (by rw[HR.out,j6 (by simpa using hk)];rfl),abL⟩
       ·go_wp2_with fail;go_ret;exact⟨aK (by rw[HR.out,j5 (by simpa using hk),j6 (by simpa using dm)];rfl),abL⟩
       ·go_wp2_with fail;go_ret;exact⟨aK (by rw[HR.out,j5 (by simpa using hk),j5 (by simpa using dm),j6 (by simpa using bW)];rfl),abL⟩
       go_wp2_with fail;have Ff:Hid (vk (.mk k ns nl s (e::ex) ar) a b=Cm ar a b):=(by rw[HR.out,j5 (by simpa using hk),j5 (by simpa using dm),j5 (by simpa using bW)];exact rfl);clear q0 q1 q2 q3 q4 q5 n0 n1
       go_loopw [5] (λsi wr=>∃i:Nat,i<=n'/\si= i/\Hid (Cm ar a b=Cm (ar.drop i) a b)/\Bw w2 wr)
        (λsi _=>n' - (intOf si).toNat)
       case atStart=>exact⟨0,zO,rfl,zH rfl,j9 _ _⟩
       obtain⟨i,hi,rfl,HL,dU⟩:=hrel;have Nw:Bw w wr:=abL.seq dU;obtain⟨q0,q1,q2,q3,q4,q5⟩:=gG ((dU.block _ zO).trans ((mX.block _ zO).trans H1));obtain⟨n0,n1⟩:=dw ((dU.block _ zO).trans ((mX.block _ bY).trans H2));clear q0 q1 q2 q3 q4;by_cases aN:i<n'
       ·exact av5
       exact av7
def jJ(a b:ByteArray):Bool:=decide (1<=b.size)&&decide (b.size<=200)&&decide (a.size<=200)
def uI(k:Int)(ns nl s:ByteArray)(n n':Nat):Bool:=
 if k=1 then jJ ns nl&&s.toList.isEmpty&&decide (n=0)&&decide (n'=0)
 else if k=2 then (eqS ns ⟨#[]⟩&&eqS nl ⟨#[]⟩)&&decide (s.size<=200)&&decide (n<=1)&&decide (n'=0)
 else if k=3 then (eqS ns ⟨#[]⟩&&eqS nl ⟨#[]⟩)&&s.toList.isEmpty&&decide (n<=1)&&decide (n'=0)
 else if k=4 then (eqS ns ⟨#[]⟩&&eqS nl ⟨#[]⟩)&&s.toList.isEmpty&&decide (n=0)&&decide (1<=n')
 else false
mutual
def rU:aT->Bool
 | .mk k ns nl s ex ar=>lI ex&&lI ar&&uI k ns nl s ex.length ar.length
def lI:List aT->Bool
 | []=>true
 | c::l=>rU c&&lI l
end
theorem Hq{l:List aT}(h:l[i]?=ch):lI (l.drop i)=(rU ch&&lI (l.drop (i+1))):=by
 obtain⟨hi,rfl⟩:=z4.1 h;rw[nZ hi,lI]
theorem apj(k:Int):(k==1)=true\/((k==1)=false/\(k==2)=true)\/((k==1)=false/\(k==2)=false/\(k==3)=true)\/((k==1)=false/\(k==2)=false/\(k==3)=false/\(k==4)=true)\/((k==1)=false/\(k==2)=false/\(k==3)=false/\(k==4)=false):=by
 cases (k==1)<;>cases (k==2)<;>cases (k==3)<;>cases (k==4)<;>simp
theorem Zl(a b:ByteArray)(w:World):
 Rt 156 #[.agg #[a,b]] w (jJ a b):=by
 go_enter func156,ntmps156;go_wp2
 all_goals
  go_ret;exact⟨aK (by unfold jJ;rw[m9];simp<;>omega),(j9 _ _).alloc (zR _) _⟩
theorem ag8(c:aT):∀(cs:List Value) (w:World) (F:Nat->Prop),dA w F c cs->
 Rt 140 #[.agg cs.toArray] w (rU c):=by
 induction c using aT.ind with
 | _ k ns nl s ex ar Jv iha=>
   intro cs w F hr0;obtain⟨A,n,c,A',n',c',rfl,hl,zS,h1,h2⟩:=hr0.here.form;obtain⟨O0,HA0⟩:=zJ2 Jv iha;clear Jv iha hr0;have heq:=nO;have HR:Hid (rU (.mk k ns nl s ex ar)=(lI ex&&lI ar&&uI k ns nl s n n')):=(by rw[rU,h1.len,h2.len];exact rfl);obtain⟨w1,bI,hblk,bY,ai⟩:=af w (Zc #[k,ns,nl,s,(A,n,c),(A',n',c')] 26);have HB:=zH hblk;clear hblk;go_enter func140,ntmps140;go_wp2_with fail;have HW:=zH bI;clear bI
   go_loopw [3] (λsi wr=>∃i:Nat,i<=n/\si= i/\Hid (lI ex=lI (ex.drop i))/\Bw w1 wr)
    (λsi _=>n - (intOf si).toNat)
   case atStart=>exact⟨0,zO,rfl,zH rfl,j9 _ _⟩
   obtain⟨i,hi,rfl,HL,aH⟩:=hrel;obtain⟨q0,q1,q2,q3,q4,q5⟩:=gG ((aH.block _ bY).trans HB);by_cases aN:i<n
   ·obtain⟨b,off,ch,v0,v1,v2,v3,v4,v5,HX,kP,p0,p1,p2,p3,p4,p5,dO⟩:=h1.round (ai.seq aH) aN c;have hd:=zT1 (i<n);go_wp2_with fail;refine (O0 ch (qN HX) _ _ _ kP).mono ?_;rintro e3 w3 ⟨rfl,az⟩
    cases hv:rU ch with
    | true=>
      have vw:=zH hv;clear hv;go_wp2_with fail;go_roundw
      case rel=>exact⟨i+1,zO,by go_num,zH (by rw[HL.out,Hq HX,vw.out];rfl),aH.trans (az.mono aH.size)⟩
      simp[intOf];omega
    | false=>
      have vw:=zH hv;clear hv;go_wp2_with fail;go_ret;exact⟨aK (by rw[HR.out,HL.out,Hq HX,vw.out];simp),(ai.seq aH).trans (az.mono (ai.seq aH).size)⟩
   have hd:=zT2 (i<n);have HE:Hid (lI ex=true):=(by have h:=HL.out;rw[z14 (by have:=h1.len;omega)] at h;exact h);go_wp2_with fail
   go_loopw [4] (λsi wr=>∃i:Nat,i<=n'/\si= i/\Hid (lI ar=lI (ar.drop i))/\Bw w1 wr)
    (λsi _=>n' - (intOf si).toNat)
   case atStart=>exact⟨0,zO,rfl,zH rfl,aH⟩
   obtain⟨i,hi,rfl,HL,aH⟩:=hrel;obtain⟨q0,q1,q2,q3,q4,q5⟩:=gG ((aH.block _ bY).trans HB);by_cases aN:i<n'
   ·obtain⟨b,off,ch,v0,v1,v2,v3,v4,v5,HX,kP,p0,p1,p2,p3,p4,p5,dO⟩:=h2.round (ai.seq aH) aN c';have hd:=zT1 (i<n');go_wp2_with fail;refine (HA0 ch (qN HX) _ _ _ kP).mono ?_;rintro e3 w3 ⟨rfl,az⟩
    cases hv:rU ch with
    | true=>
      have vw:=zH hv;clear hv;go_wp2_with fail;go_roundw
      case rel=>exact⟨i+1,zO,by go_num,zH (by rw[HL.out,Hq HX,vw.out];rfl),aH.trans (az.mono aH.size)⟩
      simp[intOf];omega
    | false=>
      have vw:=zH hv;clear hv;go_wp2_with fail;go_ret;exact⟨aK (by rw[HR.out,HL.out,Hq HX,vw.out];simp),(ai.seq aH).trans (az.mono (ai.seq aH).size)⟩
   have hd:=zT2 (i<n');have Ud:Hid (lI ar=true):=(by have h:=HL.out;rw[z14 (by have:=h2.len;omega)] at h;exact h)
   rcases apj k with hk | ⟨hk,dm⟩ | ⟨hk,dm,bW⟩ | ⟨hk,dm,bW,jl⟩ | ⟨hk,dm,bW,jl⟩
   ·have HN:Hid (uI k ns nl s n n'=(jJ ns nl&&s.toList.isEmpty&&decide (n=0)&&decide (n'=0))):=(by unfold uI;rw[j6 (by simpa using hk)];exact rfl);go_wp2_with fail;refine (Zl _ _ _).mono ?_;rintro e3 w3 ⟨rfl,az⟩;have dY:=(ai.seq aH).seq az;obtain⟨q0,q1,q2,q3,q4,q5⟩:=gG (((aH.trans (az.mono aH.size)).block _ bY).trans HB)
    cases hv:jJ ns nl with
    | false=>
      have vw:=zH hv;clear hv;go_wp2_with fail;go_ret;exact⟨aK (by rw[HR.out,HE.out,Ud.out,HN.out,vw.out];rfl),dY⟩
    | true=>
      have vw:=zH hv;clear hv;go_wp2_with fail
      all_goals
       go_ret;exact⟨aK (by rw[HR.out,HE.out,Ud.out,HN.out,vw.out,m9];simp[*]<;>first | omega | (intros;omega) | (intros;simp_all)),dY⟩
   ·have HN:Hid (uI k ns nl s n n'=((eqS ns ⟨#[]⟩&&eqS nl ⟨#[]⟩)&&decide (s.size<=200)&&decide (n<=1)&&decide (n'=0))):=(by unfold uI;rw[j5 (by simpa using hk),j6 (by simpa using dm)];exact rfl);go_wp2_with fail
    all_goals
     go_ret;exact⟨aK (by rw[HR.out,HE.out,Ud.out,HN.out,m9];simp[*]<;>first | omega | (intros;omega) | (intros;simp_all)),ai.seq aH⟩
   ·have HN:Hid (uI k ns nl s n n'=((eqS ns ⟨#[]⟩&&eqS nl ⟨#[]⟩)&&s.toList.isEmpty&&decide (n<=1)&&decide (n'=0))):=(by unfold uI;rw[j5 (by simpa using hk),j5 (by simpa using dm),j6 (by simpa using bW)];exact rfl);go_wp2_with fail
    all_goals
     go_ret;exact⟨aK (by rw[HR.out,HE.out,Ud.out,HN.out,m9];simp[*]<;>first | omega | (intros;omega) | (intros;simp_all)),ai.seq aH⟩
   ·have HN:Hid (uI k ns nl s n n'=((eqS ns ⟨#[]⟩&&eqS nl ⟨#[]⟩)&&s.toList.isEmpty&&decide (n=0)&&decide (1<=n'))):=(by unfold uI;rw[j5 (by simpa using hk),j5 (by simpa using dm),j5 (by simpa using bW),j6 (by simpa using jl)];exact rfl);go_wp2_with fail
    all_goals
     go_ret;exact⟨aK (by rw[HR.out,HE.out,Ud.out,HN.out,m9];simp[*]<;>first | omega | (intros;omega) | (intros;simp_all)),ai.seq aH⟩
   have HN:Hid (uI k ns nl s n n'=false):=(by unfold uI;rw[j5 (by simpa using hk),j5 (by simpa using dm),j5 (by simpa using bW),j5 (by simpa using jl)];exact rfl);go_wp2_with fail;go_ret;exact⟨aK (by rw[HR.out,HN.out];simp),ai.seq aH⟩
mutual
def Wq:Nat->aT->Nat
 | 0,_=>100000
 | r+1,.mk _ ns nl s ex ar=>if 1000<nl.size\/1000<ns.size\/1000<s.size then 100000 else CG r (CG r 1 ex) ar
def CG:Nat->Nat->List aT->Nat
 | _,n,[]=>n
 | r,n,c::l=>if n<100000 then CG r (n+Wq r c) l else n
end
mutual
theorem amn:∀(c:aT) (r:Nat),Wq r c<=100000*(r+1)
 | .mk k ns nl s ex ar,0=>by simp[Wq]
 | .mk k ns nl s ex ar,r+1=>by
   rw[Wq];have h1:=Ve ex r 1;have h2:=Ve ar r (CG r 1 ex)
   split<;>omega
theorem Ve:∀(l:List aT) (r n:Nat),CG r n l<=max n (100000+100000*(r+1))
 | [],r,n=>by rw[CG];omega
 | c::l,r,n=>by
   rw[CG]
   split
   ·have h1:=amn c r;have h2:=Ve l r (n+Wq r c);omega
   omega
end
mutual
def ni:Nat->aT->Nat
 | 0,_=>100000
 | r+1,.mk _ _ _ _ ex ar=>kW r (kW r 1 ex) ar
def kW:Nat->Nat->List aT->Nat
 | _,n,[]=>n
 | r,n,c::l=>if n<100000 then kW r (n+ni r c) l else n
end
mutual
theorem Qy:∀(c:aT) (r:Nat),ni r c<=100000*(r+1)
 | .mk k ns nl s ex ar,0=>by simp[ni]
 | .mk k ns nl s ex ar,r+1=>by
   rw[ni];have h1:=JB ex r 1;have h2:=JB ar r (kW r 1 ex);omega
theorem JB:∀(l:List aT) (r n:Nat),kW r n l<=max n (100000+100000*(r+1))
 | [],r,n=>by rw[kW];omega
 | c::l,r,n=>by
   rw[kW]
   split
   ·have h1:=Qy c r;have h2:=JB l r (n+ni r c);omega
   omega
end
theorem Uf{l:List aT}(hc:l[i]?=c)(hn:nn<100000)(h:kW r nn (l.drop i)=R):kW r (nn+ni r c) (l.drop (i+1))=R:=by
 obtain⟨hi,hc⟩:=z4.1 hc;rw[nZ hi,hc,kW,j6 hn] at h;exact h
theorem Ws{l:List aT}(hn:100000<=nn\/l.length<=i)(h:kW r nn (l.drop i)=R):nn=R:=by
 rcases hn with hn | hn
 ·cases hd:l.drop i with
  | nil=>rw[hd,kW] at h;exact h
  | cons c l'=>rw[hd,kW,j5 zO] at h;exact h
 rw[z14 hn,kW] at h;exact h
theorem count_any:∀(r:Nat) (c:aT) (cs:List Value) (w:World) (F:Nat->Prop),dA w F c cs->r<1000->
 Rt 139 #[.agg cs.toArray,r] w (ni r c):=by
 intro r
 induction r with
 | zero=>
   rintro⟨k,ns,nl,s,ex,ar⟩ cs w F hr hr0;obtain⟨A,n,c,A',n',c',rfl,hl,zS,h1,h2⟩:=hr.here.form;go_enter func139,ntmps139;go_wp2;go_ret;exact⟨rfl,(j9 _ _).alloc (zR _) _⟩
 | succ r ih=>
   rintro⟨k,ns,nl,s,ex,ar⟩ cs w F hr hr0;obtain⟨A,n,c,A',n',c',rfl,hl,zS,h1,h2⟩:=hr.here.form;have rZ:=zH ih;clear ih hr;obtain⟨w1,bI,hblk,bY,ai⟩:=af w (Zc #[k,ns,nl,s,(A,n,c),(A',n',c')] 26);obtain⟨q0,q1,q2,q3,q4,q5⟩:=gG hblk;have HB:=zH hblk;clear hblk;have LV:=zT2 ((r:Int)+1<1);rw[show ((r+1:Nat):Int)=(r:Int)+1 from rfl];go_enter func139,ntmps139;go_wp2_with fail;obtain⟨R1,hR1⟩:=zF (kW r 1 ex);obtain⟨R,hR⟩:=zF (kW r R1 ar);have HR:Hid (ni (r+1) (aT.mk k ns nl s ex ar)=R):=(by rw[ni];rw[hR1,hR];exact rfl);have hRb:R1<=200000000:=(by have:=JB ex r 1;omega);obtain⟨O1,Ff,HW⟩:=zJ3 hR1 hR bI;clear hR1 hR bI q0 q1 q2 q3 q4 q5
   go_loopw [5,6] (λsn si wr=>∃i nn:Nat,i<=n/\si= i/\sn= nn/\nn<=200000000/\Hid (kW r nn (ex.drop i)=R1)/\Bw w1 wr)
    (λ_ si _=>n - (intOf si).toNat)
   case atStart=>exact⟨0,1,zO,rfl,rfl,zO,O1,j9 _ _⟩
   obtain⟨i,nn,hi,rfl,rfl,gX,HL,aH⟩:=hrel;obtain⟨q0,q1,q2,q3,q4,q5⟩:=gG ((aH.block _ bY).trans HB);clear q0 q1 q2 q3;by_cases Jy:i<n/\nn<100000
   ·obtain⟨aN,JC⟩:=Jy;obtain⟨b,off,ch,v0,v1,v2,v3,v4,v5,HX,kP,p0,p1,p2,p3,p4,p5,dO⟩:=h1.round (ai.seq aH) aN c;have hd:=zT1 ((nn:Int)<100000);have Zo:=Qy ch r;go_wp2_with fail;refine (rZ _ _ _ _ kP zO).mono ?_;rintro e w2 ⟨rfl,ag⟩;go_wp2_with fail;go_roundw
    case rel=>exact⟨i+1,nn+ni r _,zO,by go_num,by go_num,zO,Uf HX JC HL,aH.trans (ag.mono aH.size)⟩
    simp[intOf];omega
   have HE:Hid (nn=R1):=Ws (by have:=h1.len;omega) HL
   rcases (show (decide (i<n)=false)\/(i<n/\decide ((nn:Int)<100000)=false) by simp;omega) with hd | ⟨aN,hd⟩
   all_goals
    clear Jy;go_wp2_with fail
    go_loopw [5,7] (λsn si wr=>∃i nn:Nat,i<=n'/\si= i/\sn= nn/\nn<=200000000/\Hid (kW r nn (ar.drop i)=R)/\Bw w1 wr)
     (λ_ si _=>n' - (intOf si).toNat)
    case atStart=>exact⟨0,nn,zO,rfl,rfl,zO,by rw[HE.out];exact Ff,aH⟩
    clear hd q4 q5 HE HL aH hi;obtain⟨i,nn,hi,rfl,rfl,aHQ,HL,aH⟩:=hrel;obtain⟨q0,q1,q2,q3,q4,q5⟩:=gG ((aH.block _ bY).trans HB);clear q0 q1 q2 q3;by_cases Jy:i<n'/\nn<100000
    ·obtain⟨aN,JC⟩:=Jy;obtain⟨b,off,ch,v0,v1,v2,v3,v4,v5,HX,kP,p0,p1,p2,p3,p4,p5,dO⟩:=h2.round (ai.seq aH) aN c';have hd:=zT1 ((nn:Int)<100000);have Zo:=Qy ch r;go_wp2_with fail;refine (rZ _ _ _ _ kP zO).mono ?_;rintro e w2 ⟨rfl,ag⟩;go_wp2_with fail;go_roundw
     case rel=>exact⟨i+1,nn+ni r _,zO,by go_num,by go_num,zO,Uf HX JC HL,aH.trans (ag.mono aH.size)⟩
     simp[intOf];omega
    have HE:Hid (nn=R):=Ws (by have:=h2.len;omega) HL
    rcases (show (decide (i<n')=false)\/(i<n'/\decide ((nn:Int)<100000)=false) by simp;omega) with hd | ⟨aN,hd⟩
    all_goals
     clear Jy;go_wp2_with fail;go_ret;exact⟨ard (HE.trans HR.symm),ai.seq aH⟩
