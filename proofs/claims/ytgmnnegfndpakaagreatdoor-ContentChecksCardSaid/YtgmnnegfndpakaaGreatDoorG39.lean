import Derived.Test.YtgmnnegfndpakaaGreatDoorBehA
set_option maxHeartbeats 20000000
set_option maxRecDepth 100000
namespace Go.Proofs.YtgmnnegfndpakaaGreatDoor
open Go Go.RowKit
structure Hdr where
 A:Option Addr
 n:Nat
 c:Nat
def Hdr.v(h:Hdr):Value:=.slice h.A h.n h.c
def zx(h:Hdr):List Value:=[h.v]
theorem YS(h:Hdr):(zx h).length=1:=rfl
theorem aud:(Tryz.prog.info? 58).map (λi=>(i.zero,i.size,i.bytes))=some (some (.slice none 0 0),1,24):=by kernel_rfl
theorem tyH:rC Tryz.prog 49 58 (.slice none 0 0) 1 24:=sU zK aud zK zD zD
def qf(n:Int):List Value:=[.int .i64 n]
theorem MG(n:Int):(qf n).length=1:=rfl
theorem VN(w:World)(base:Nat)(l:List Hdr)(v:Value)(dV:ax w base 58 1 zx l v)(g c:Nat)(x:Hdr)(hc:w.cell? ⟨g,0,none⟩=some x.v)(hlen:l.length<1000000000)(eY:base<=w.heap.size)(ty:TypeId):
 ∃v' w',(Builtin.append_ #[49,49] ty #[v,.slice (some ⟨g,0,none⟩) 1 c]).run Tryz.prog w= .ok v' w'/\ax w' base 58 1 zx (l++[x]) v'/\w.grownBy w' v.ownBlock/\(v'.ownBlock=v.ownBlock\/v'.ownBlock=some w.heap.size):=by
 obtain⟨ht,i,hi,hz,bY,nP,ry,h0,-⟩:=tyH
 obtain⟨v',w',bG,h2,h3,-,h5⟩:=run_append_own_at (P:=Tryz.prog) w base 49 ty 58 i _ 1 24 ht hi hz bY nP ry h0 v _ _ dV ⟨g,0,none⟩ 1 c (zx x) rfl (λj u hu=>by
  cases j with
  | zero=>
    obtain rfl:x.v=u:=(by simpa[zx] using hu);simpa[Addr.add] using hc
  | succ j=>simp[zx] at hu) (by intro u hu;simp only[zx,og] at hu;rw[hu];rfl) (by unfold maxLen;omega) zO eY
 refine⟨v',w',bG,?_,h3,h5⟩;unfold ax;rw[z5,List.flatMap_append];simpa using h2
theorem aY.hdr{w:World}{F:Nat->Prop}{l:List Hdr}{A:Option Addr}{n:Nat}(h:aY w F 1 zx l A n){i:Nat}(hi:i<n)(c:Nat):
 ∃b off x,Hid (l[i]?=some x)/\w.cell? ⟨b,off+i,none⟩=some x.v/\∀W,(Instr.indexAt 49 (.slice A n c) (.int .i64 (i:Int))).run Tryz.prog W= .ok (.pointer (some ⟨b,off+i,none⟩)) W:=by
 obtain⟨b,off,hA,_,hc⟩:=h.2 (by rw[<-h.1];omega);have hx:l[i]?=some (l[i]'(by rw[<-h.1];exact hi)):=z6 _;have h1:=hc i _ hx 0 _ rfl;rw[Nat.mul_one,Nat.add_zero] at h1;refine⟨b,off,_,zH hx,h1,λW=>?_⟩;have e:=dN (P:=Tryz.prog) 49 58 1 Tryz.underlying49 (λw=>by kernel_rfl) hA n c i hi W;rw[Nat.mul_one] at e;exact e
theorem aY.int{w:World}{F:Nat->Prop}{l:List Int}{A:Option Addr}{n:Nat}(h:aY w F 1 qf l A n){i:Nat}(hi:i<n)(c:Nat):
 ∃b off x,Hid (l[i]?=some x)/\w.cell? ⟨b,off+i,none⟩=some (.int .i64 x)/\∀W,(Instr.indexAt 58 (.slice A n c) (.int .i64 (i:Int))).run Tryz.prog W= .ok (.pointer (some ⟨b,off+i,none⟩)) W:=by
 obtain⟨b,off,hA,_,hc⟩:=h.2 (by rw[<-h.1];omega);have hx:l[i]?=some (l[i]'(by rw[<-h.1];exact hi)):=z6 _;have h1:=hc i _ hx 0 _ rfl;rw[Nat.mul_one,Nat.add_zero] at h1;refine⟨b,off,_,zH hx,h1,λW=>?_⟩;have e:=dN (P:=Tryz.prog) 58 3 1 Tryz.underlying58 (λw=>by kernel_rfl) hA n c i hi W;rw[Nat.mul_one] at e;exact e
theorem ax.setInt{w:World}{base:Nat}{l:List Int}{v:Value}(h:ax w base 3 1 qf l v){i:Nat}(hi:i<l.length)(x:Int):
 ∃g cap,v= .slice (some ⟨g,0,none⟩) l.length cap/\base<=g/\g<w.heap.size/\v.ownBlock=some g/\w.frozen? ⟨g,i,none⟩=false/\(∃u,w.cell? ⟨g,i,none⟩=some u)/\
  (∀W,(Instr.indexAt 58 v (.int .i64 (i:Int))).run Tryz.prog W= .ok (.pointer (some ⟨g,i,none⟩)) W)/\ax (w.setCell ⟨g,i,none⟩ (.int .i64 x)) base 3 1 qf (l.set i x) v:=by
 rcases h.2 with ⟨_,hn⟩ | ⟨g,cap,cur,rfl,hg,hh,GK,yg,mP,kU⟩
 ·omega
 ·have bY:i<cur.size:=by rw[mP];omega
  refine⟨g,cap,rfl,hg,aC hh,rfl,frozen_of_row w g i _ _ hh,⟨cur[i],?_⟩,λW=>?_,?_⟩
  ·rw[cell_of_row w g _ _ _ _ hh];exact Array.getElem?_eq_getElem bY
  ·have e:=dN (P:=Tryz.prog) 58 3 1 Tryz.underlying58 (λw=>by kernel_rfl) (rfl:(some ⟨g,0,none⟩:Option Addr)=some ⟨g,0,none⟩) l.length cap i hi W
   rw[Nat.mul_one,Nat.zero_add] at e;exact e
  ·refine⟨tX MG _,.inr ⟨g,cap,cur.setIfInBounds i (.int .i64 x),by rw[List.length_set],hg,dM hh,by rw[List.length_set];exact GK,yg,by simpa using mP,?_⟩⟩
   have Gh:(l.set i x).flatMap qf=(l.flatMap qf).set i (.int .i64 x):=by
    have hl:∀(l:List Int) (i:Nat),(l.set i x).flatMap qf=(l.flatMap qf).set i (.int .i64 x):=by
     intro l
     induction l with
     | nil=>intro i;rfl
     | cons y l ih=>
       intro i
       cases i with
       | zero=>rfl
       | succ i=>
         show qf y++(l.set i x).flatMap qf=(qf y++l.flatMap qf).set (i+1) _;rw[ih];rfl
    exact hl l i
   rw[Gh,<-kU,List.length_set,Array.toList_setIfInBounds,List.take_set]
structure qg {α:Type} (W:World) (base:Nat) (cells:α->List Value) (hs:List Hdr) (ls:List (List α)):Prop where
 len:hs.length=ls.length
 row:∀(i:Nat) (l:List α) (h:Hdr),ls[i]?=some l->hs[i]?=some h->ax W base 3 1 cells l h.v
section
variable {α:Type} {W W':World} {base:Nat} {cells:α->List Value} {hs:List Hdr} {ls:List (List α)}
theorem qg.nil:qg W base cells [] ([]:List (List α)):=⟨rfl,λi l h hl=>by simp at hl⟩
theorem qg.get(h:qg W base cells hs ls){i:Nat}{x:Hdr}(hx:hs[i]?=some x):∃l,ls[i]?=some l/\ax W base 3 1 cells l x.v:=by
 have hi:=(List.getElem?_eq_some_iff.1 hx).1;have hl:ls[i]?=some (ls[i]'(by rw[<-h.len];exact hi)):=z6 _;exact⟨_,hl,h.row i _ x hl hx⟩
theorem qg.keep(h:qg W base cells hs ls)(hb:∀x∈hs,∀q,x.v.ownBlock=some q->W'.heap[q]?=W.heap[q]?):qg W' base cells hs ls:=
 ⟨h.len,λi l x hl hx=>(h.row i l x hl hx).bu λq hq=>hb x (z13 hx) q hq⟩
theorem qg.lt(h:qg W base cells hs ls){x:Hdr}(hx:x∈hs){q:Nat}(hq:x.v.ownBlock=some q):base<=q/\q<W.heap.size/\∃cs,W.heap[q]?=some (.cells cs 3 (0,0)):=by
 obtain⟨i,hi⟩:=List.getElem?_of_mem hx;obtain⟨l,_,ho⟩:=h.get hi;exact⟨(ho.block_lt hq).1,(ho.block_lt hq).2,ho.bC hq⟩
theorem qg.snoc(h:qg W base cells hs ls){l:List α}{x:Hdr}(ho:ax W base 3 1 cells l x.v):qg W base cells (hs++[x]) (ls++[l]):=by
 refine⟨by rw[z5,z5,h.len];rfl,λi l' x' hl hx=>?_⟩;rw[List.getElem?_append] at hl hx;by_cases hi:i<ls.length
 ·rw[if_pos hi] at hl
  rw[if_pos (by rw[h.len];exact hi)] at hx;exact h.row i l' x' hl hx
 ·rw[if_neg hi] at hl
  rw[if_neg (by rw[h.len];exact hi)] at hx
  have e1:i - ls.length=0:=by
   have:=(List.getElem?_eq_some_iff.1 hl).1;simp at this;omega
  rw[e1] at hl;rw[h.len,e1] at hx;simp only[List.getElem?_cons_zero,Option.some.injEq] at hl hx;subst hl;subst hx;exact ho
end
theorem iP{W:World}{q q':Nat}{cs cs':Array Value}{t t':TypeId}{fr fr':Nat×Nat}(h:W.heap[q]?=some (.cells cs t fr))(h':W.heap[q']?=some (.cells cs' t' fr'))(ht:t≠t'):q≠q':=λe=>by
 rw[e,h'] at h;simp only[Option.some.injEq,Obj.cells.injEq] at h;exact ht h.2.1.symm
theorem tK{W:World}{q q':Nat}{cs:Array Value}{t:TypeId}{fr:Nat×Nat}{κ β:Type}{enc:κ->Value}{val:β->Value}{l:List (κ×β)}(h:W.heap[q]?=some (.cells cs t fr))(h':gQ W q' enc val l):q≠q':=λe=>by
 have h2:W.heap[q']?=some (Ag enc val l):=h';rw[<-e,h] at h2;simp[Ag] at h2
theorem Si{β:Type}{val:β->Value}(a:ByteArray):∀(l:List (ByteArray×β)) (i:Nat),Instr.findNow .string (.string a) (gE lg val l i) i=some ((xR eqS a l i).map λp=>(p.1,val p.2))
 | [],_=>rfl
 | (b,v)::l,i=>by
   rw[gE,Instr.findNow,lg,Instr.sameNow,Yz,xR];cases h:eqS a b
   ·simp only[Bool.false_eq_true,if_false]
    exact Si a l (i+1)
   ·rfl
theorem TL:NM Tryz.prog 9 lg eqS where
 chk e k W:=MapKept.run_checkKey (d:=.string) zK (by simp[lg,MapKept.IsKey]) e 9999
 find β val l k W:=MapKept.run_findKey (d:=.string) zK (Si k l 0)
 inj a b h:=iV.1 h
 same k:=by simp[lg,Instr.sameBits,MapKept.bytes_beq]
theorem Lr{κ β:Type}{eq:κ->κ->Bool}(he:∀a b,eq a b=true↔a=b)(k j:κ)(v:β):∀l:List (κ×β),dP eq j (jh eq k v l)=if eq j k=true then some v else dP eq j l
 | []=>by
   rw[jh,dP,dP,dP]
 | (k',u)::l=>by
   rw[jh];by_cases h:eq k k'=true
   ·obtain rfl:=(he _ _).1 h
    rw[if_pos h,dP,dP];by_cases hj:eq j k=true
    ·rw[if_pos hj,if_pos hj]
    ·rw[if_neg hj,if_neg hj,if_neg hj]
   ·rw[if_neg h,dP,dP,Lr he k j v l]
    by_cases hj:eq j k'=true
    ·obtain rfl:=(he _ _).1 hj
     rw[if_pos hj,if_pos hj,if_neg (λe=>h ((he _ _).2 ((he _ _).1 e).symm))]
    ·rw[if_neg hj,if_neg hj]
end Go.Proofs.YtgmnnegfndpakaaGreatDoor
namespace Go.Proofs.YtgmnnegfndpakaaGreatDoor
open Go.RowKit
def oJ(elems:List (List Nm))(lim:Nat)(pl:List aU):Prop:=∀(i:Nat) (l:LI),sG pl i=some l->xE elems l.2/\l.1<lim
section
variable {elems:List (List Nm)} {lim:Nat}
theorem oJ.join{pl:List aU}(h:oJ elems lim pl)(x y:dR):oJ elems lim (dB pl x y):=λi l hl=>h i l (by rwa [kZ] at hl)
theorem oJ.kY{once:List aU->List aU×dR}(ho:∀pl,oJ elems lim pl->oJ elems lim (once pl).1):∀(n:Nat) (pl:List aU) (out:dR),oJ elems lim pl->oJ elems lim (Go.Proofs.YtgmnnegfndpakaaGreatDoor.kY once n pl out).1
 | 0,pl,out,h=>h
 | n+1,pl,out,h=>by rw[Go.Proofs.YtgmnnegfndpakaaGreatDoor.kY];exact oJ.kY ho n _ _ ((ho pl h).join _ _)
theorem oJ.mY{once:List aU->List aU×dR}(ho:∀pl,oJ elems lim pl->oJ elems lim (once pl).1):∀(n:Nat) (pl:List aU) (out:dR),oJ elems lim pl->oJ elems lim (Go.Proofs.YtgmnnegfndpakaaGreatDoor.mY once n pl out).1
 | 0,pl,out,h=>h
 | n+1,pl,out,h=>by rw[Go.Proofs.YtgmnnegfndpakaaGreatDoor.mY];exact oJ.mY ho n _ _ ((ho pl h).join _ _)
theorem oJ.times{once:List aU->List aU×dR}(ho:∀pl,oJ elems lim pl->oJ elems lim (once pl).1)(mn mx z:Int)(pl:List aU)(h:oJ elems lim pl):oJ elems lim (rH once mn mx z pl).1:=by
 unfold rH
 split
 ·exact h
 ·have h1:=oJ.kY ho mn.toNat pl oN h
  dsimp only
  split
  ·exact((ho _ h1).join _ _).join _ _
  ·exact(oJ.mY ho _ _ _ h1).join _ _
theorem agB{k mn mx el:Int}{c:aT}{pr:Int}{args:List aJ}{top:Bool}(hf:bT elems.length top (.mk k mn mx el c pr args)=true):xE elems (.mk k mn mx el c pr args):=λhk=>by
 have fM:k=1:=hk;rw[bT,if_pos fM] at hf;simp only[z7,z18] at hf;exact⟨hf.1.1.1.1,hf.1.1.1.2⟩
mutual
theorem aaC:∀(p:aJ) (top:Bool),bT elems.length top p=true->p.kind≠5->∀(num:Nat) (pl:List aU),num+dh p<=lim->oJ elems lim pl->oJ elems lim (kL p num pl).1
 | .mk k mn mx el c pr args,top,hf,lq,num,pl,hl,h=>by
   have aB0:k≠5:=lq;rw[dh] at hl;rw[kL];by_cases hk:fD k=true
   ·rw[if_pos hk]
    intro i l hi;have DT:((pl++[⟨.mk k mn mx el c pr args,num,[]⟩])[i]?).map (λq:aU=>(q.num,q.leaf))=some l:=hi
    rcases Nat.lt_or_ge i pl.length with aN | jT
    ·rw[z20 aN] at DT
     exact h i l DT
    ·rw[z21 jT] at DT
     cases hj:i - pl.length with
     | zero=>
       rw[hj] at DT;obtain rfl:(num,aJ.mk k mn mx el c pr args)=l:=(by simpa using DT);exact⟨agB hf,by show num<lim;omega⟩
     | succ j=>rw[hj] at DT;simp at DT
   ·rw[if_neg hk]
    have he:jZ elems.length args=true:=by
     rw[bT] at hf;by_cases h1:k=1
     ·exact absurd (by rw[h1];rfl) hk
     by_cases h2:k=2
     ·exact absurd (by rw[h2];rfl) hk
     rw[if_neg h1,if_neg h2] at hf;by_cases h3:k=3
     ·rw[if_pos h3] at hf
      simp only[z7] at hf;exact hf.2
     rw[if_neg h3] at hf;by_cases h4:k=4
     ·rw[if_pos h4] at hf
      simp only[z7] at hf;exact hf.2
     ·rw[if_neg h4,if_neg aB0] at hf
      cases hf
    exact Ou args he _ (num+1) pl _ zO h
theorem Ou:∀(l:List aJ),jZ elems.length l=true->∀(sq:Bool) (num:Nat) (pl:List aU) (out:dR),num+dZ l<=lim->oJ elems lim pl->oJ elems lim (pI sq l num pl out).1
 | [],_,sq,num,pl,out,_,h=>by rw[pI];exact h
 | p::l,he,sq,num,pl,out,hl,h=>by
   rw[jZ,z7,z7] at he;rw[dZ] at hl
   have lq:p.kind≠5:=λe=>by
    have h2:=he.1.2;obtain⟨k,mn,mx,el,c,pr,args⟩:=p;have h5:k=5:=e;subst h5;rw[bT] at h2;simp at h2
   have ht:=oJ.times (λpl h=>aaC p false he.1.2 lq num pl zO h) p.mn p.mx (dC p) pl h;rw[pI]
   split
   ·exact Ou l he.2 _ _ _ _ zO (ht.join _ _)
   ·exact Ou l he.2 _ _ _ _ zO ht
end
end
theorem MH{elems:List (List Nm)}{p:aJ}(h:kN elems p=0):mQ (eU elems p):=by
 by_cases hk:p.kind=5
 ·obtain⟨-,-,dD,hlen,dW⟩:=af7 h hk
  have hb:eU elems p=⟨elems,[],[],[],false,p.args⟩:=by unfold eU;rw[if_pos hk]
  rw[hb];refine⟨zP,zP,zP,zP,λx hx=>?_,⟨zP,hlen,λ_=>rfl⟩,zP⟩;obtain⟨h1,h2,h3,-,h5⟩:=dW x hx;refine⟨?_,h2,h3⟩;obtain⟨k,mn,mx,el,c,pr,args⟩:=x;exact agB h5
 ·obtain⟨hg,hn,hc⟩:=Vz h hk
  obtain⟨-,-,-,-,hf,-⟩:=J5 h;have hm:=xI hg hn 0 [];have bP:=Ez hg hn hc 0 [];have hpo:oJ elems 1000000 (fV p 0 []).1:=oJ.times (λpl h=>aaC p true hf hk 0 pl zO h) p.mn p.mx (dC p) [] (λi l hi=>by unfold sG at hi;simp at hi)
  have hb:eU elems p=⟨elems,(fV p 0 []).1,(fV p 0 []).2.first,(fV p 0 []).2.last,(fV p 0 []).2.empty,[]⟩:=by unfold eU;rw[if_neg hk]
  rw[hb];have hl:=bP.len;have h0:([]:List aU).length=0:=rfl;rw[h0] at hl
  have lab:∀(i:Nat) (q:aU),(fV p 0 []).1[i]?=some q->sG (fV p 0 []).1 i=some (q.num,q.leaf):=λi q hq=>by unfold sG;rw[hq];rfl
  refine⟨λi hi=>(hm.ok.fF.first i hi).2,λi q hq j hj=>(hm.ok.fF.qI i j ⟨Nat.zero_le _,(List.getElem?_eq_some_iff.1 hq).1⟩ ⟨q,hq,hj⟩).2,λi hi=>(hm.ok.fF.last i hi).2,λi q hq=>(hpo i _ (lab i q hq)).1,zP,⟨by show (fV p 0 []).1.length<=200;omega,zP,zP⟩,λi q hq=>(hpo i _ (lab i q hq)).2⟩
theorem XM:∀(l:List aJ) (s i u q:Nat),(qH l s i u q).length<=l.length
 | [],_,_,_,_=>zR _
 | p::l,s,i,u,q=>by
   rw[qH,z5,z9];have:=XM l s (i+1) (4*u) (q / 4)
   split<;>simp<;>omega
theorem XN(pl:List aU):∀l:List Nat,(l.flatMap (CP pl)).length<=l.length
 | []=>zR _
 | i::l=>by
   rw[List.flatMap_cons,z5,z9];have h1:=XN pl l;have h2:(CP pl i).length<=1:=(by unfold CP;split<;>simp);omega
theorem FW{elems:List (List Nm)}{p:aJ}(h:kN elems p=0)(s:Nat):(gK (eU elems p) s).length<=300000:=by
 have fQ:=MH h;unfold gK
 split
 ·refine zT (XN _ _) ?_
  by_cases hk:p.kind=5
  ·have hb:eU elems p=⟨elems,[],[],[],false,p.args⟩:=by unfold eU;rw[if_pos hk]
   rw[hb];unfold ku;split<;>simp
  ·obtain⟨hg,hn,hc⟩:=Vz h hk
   have bP:=Ez hg hn hc 0 [];have hb:eU elems p=⟨elems,(fV p 0 []).1,(fV p 0 []).2.first,(fV p 0 []).2.last,(fV p 0 []).2.empty,[]⟩:=(by unfold eU;rw[if_neg hk]);rw[hb];unfold ku;dsimp only
   split
   ·have:=bP.fl;omega
   ·split
    ·rename_i q hq
     have:=bP.qI _ q (Nat.zero_le _) hq;omega
    ·simp
 ·exact zT (XM _ _ _ _ _) (by have:=fQ.len.2.1;omega)
theorem anw{m:eQ}(fQ:mQ m){s:Nat}(hs:YR m s){y:Stp}(h:y∈gK m s)(hb:m.all≠[]->s<4096):(m.all=[]->y.dst<=m.places.length)/\y.num<1000000:=by
 unfold gK at h
 split at h
 ·rename_i dW
  obtain⟨i,hi,hy⟩:=List.mem_flatMap.1 h;unfold CP at hy
  split at hy
  ·rename_i q hq
   rw[og] at hy;subst hy;exact⟨λ_=>(List.getElem?_eq_some_iff.1 hq).1,fQ.num i q hq⟩
  ·simp at hy
 ·rename_i dW
  refine⟨λe=>absurd (by rw[e];rfl) dW,?_⟩
  have key:∀(l:List aJ) (s i u q:Nat),y∈qH l s i u q->y.num<=i+l.length:=by
   intro l
   induction l with
   | nil=>intro s i u q h;rw[qH] at h;simp at h
   | cons p l ih=>
     intro s i u q h;rw[qH,z12] at h;rw[z9]
     rcases h with h | h
     ·split at h
      ·rw[og] at h;subst h;show i+1<=_;omega
      ·simp at h
     ·have:=ih _ _ _ _ h;omega
  have:=key m.all s 0 1 s h;have:=fQ.len.2.1;omega
theorem aaD:∀(l:List aJ) (s i u q:Nat) (y:Stp),(∀p∈l,p.mx<=3)->y∈qH l s i u q->∀lo,s=lo+u*q->lo<u->q<4 ^ l.length->y.dst<u*4 ^ l.length
 | [],_,_,_,_,y,_,h,_,_,_,_=>by rw[qH] at h;simp at h
 | p::l,s,i,u,q,y,hp,h,lo,hs,o8,hq=>by
   rw[qH,z12] at h;rw[z9,Nat.pow_succ] at hq ⊢
   rcases h with h | h
   ·split at h
    ·rename_i hm
     rw[og] at h;subst h;have h3:=hp p zP;have hd:q % 4<3:=(by omega);show s+u<_;have h1:q+1<=4 ^ l.length*4:=(by omega);have h2:q+2<=4 ^ l.length*4\/q+1=4 ^ l.length*4:=(by omega)
     rcases h2 with h2 | h2
     ·have h4:u*(q+2)<=u*(4 ^ l.length*4):=Nat.mul_le_mul_left _ h2
      rw[Nat.mul_add] at h4;omega
     ·omega
    ·simp at h
   ·have:=aaD l s (i+1) (4*u) (q / 4) y (λp hx=>hp p (by simp[hx])) h (lo+u*(q % 4)) (by
     rw[hs,Nat.add_assoc,Nat.mul_comm 4 u,Nat.mul_assoc,<-Nat.mul_add,Nat.mod_add_div]) (by
     have h1:u*(q % 4)<=u*3:=Nat.mul_le_mul_left _ zO
     omega) zO
    rw[show u*(4 ^ l.length*4)=4*u*4 ^ l.length by rw[Nat.mul_comm (4 ^ l.length) 4,<-Nat.mul_assoc,Nat.mul_comm u 4]];exact this
end Go.Proofs.YtgmnnegfndpakaaGreatDoor
namespace Go.Proofs.YtgmnnegfndpakaaGreatDoor
open Go.RowKit
theorem AY{β:Type}(k j:Int)(v:β):∀l:List (Int×β),dP jL j (jh jL k v l)=if j=k then some v else dP jL j l
 | []=>by
   rw[jh,dP,dP];by_cases h:j=k
   ·subst h;simp[jL]
   ·simp[jL,h,dP]
 | (k',u)::l=>by
   rw[jh];by_cases h:k=k'
   ·subst h
    rw[if_pos (by simp[jL]),dP,dP];by_cases hj:j=k
    ·subst hj;simp[jL]
    ·simp[jL,hj]
   ·rw[if_neg (by simpa[jL] using h),dP,dP,AY k j v l]
    by_cases hj:j=k'
    ·subst hj;simp[jL,Ne.symm h]
    ·simp[jL,hj]
theorem KD(t t' s:Nat):∀l:List (Nat×List Nat),fZ t' (QI t s l)=if t'=t then fZ t l++[s] else fZ t' l
 | []=>by
   rw[QI,fZ,fZ,fZ,fZ];simp
 | (k,r)::l=>by
   rw[QI];by_cases h:t=k
   ·subst h
    rw[if_pos rfl,fZ,fZ,fZ,if_pos rfl];by_cases hj:t'=t
    ·rw[if_pos hj,if_pos hj]
    ·rw[if_neg hj,if_neg hj,if_neg hj]
   ·rw[if_neg h,fZ,KD t t' s l,fZ,fZ,if_neg h]
    by_cases hj:t'=k
    ·rw[if_pos hj,if_pos hj,if_neg (λe=>h (e.symm.trans hj))]
    ·rw[if_neg hj,if_neg hj]
theorem cne{a b:Nat}(h:a≠b):¬(a:Int)=(b:Int):=by omega
def Dx(L:List (Int×Value))(t:Nat):Value:=(dP jL (t:Int) L).getD (.slice none 0 0)
def qh(w:World)(base:Nat)(T:Nat->Prop)(g:Nat)(back:List (Nat×List Nat)):Prop:=
 ∃L:List (Int×Value),gQ w g vM id L/\(∀t:Nat,ax w base 3 1 aV (fZ t back) (Dx L t))/\(∀t t' k:Nat,t≠t'->(Dx L t).ownBlock=some k->(Dx L t').ownBlock≠some k)/\∀t k:Nat,(Dx L t).ownBlock=some k->T k
theorem qh.keep{w w':World}{base g:Nat}{T:Nat->Prop}{back:List (Nat×List Nat)}(h:qh w base T g back)(hb:∀k,(T k\/k=g)->w'.heap[k]?=w.heap[k]?):qh w' base T g back:=by
 obtain⟨L,h1,h2,h3,h4⟩:=h;exact⟨L,h1.keep (hb g (.inr rfl)),λt=>(h2 t).bu λk hk=>hb k (.inl (h4 t k hk)),h3,h4⟩
theorem qh.lt{w:World}{base g:Nat}{T:Nat->Prop}{back:List (Nat×List Nat)}(h:qh w base T g back):g<w.heap.size:=by
 obtain⟨L,h1,-⟩:=h;exact h1.lt
theorem qh.new{w:World}{base g:Nat}(h:gQ w g vM id ([]:List (Int×Value))):qh w base (λ_=>False) g []:=
 ⟨[],h,λt=>ax.nil _ _ _ _ _,λt t' k _ hk=>by simp[Dx,dP,Value.ownBlock] at hk,λt k hk=>by simp[Dx,dP,Value.ownBlock] at hk⟩
theorem qh.look{w:World}{base g:Nat}{T:Nat->Prop}{back:List (Nat×List Nat)}(h:qh w base T g back)(t:Nat):
 ∃A c,(Instr.lookup 191 (.map (some g)) (.int .i64 (t:Int)) false).run Tryz.prog w= .ok (.slice A (fZ t back).length c) w/\ax w base 3 1 aV (fZ t back) (.slice A (fZ t back).length c)/\∀k,(Value.slice A (fZ t back).length c).ownBlock=some k->T k:=by
 obtain⟨L,h1,h2,h3,h4⟩:=h;obtain⟨A,c,hf⟩:=(h2 t).form;have h:=qX (P:=Tryz.prog) (zv:=.slice none 0 0) qJ Tryz.underlying191 (λW=>by kernel_rfl) h1 (t:Int) false;refine⟨A,c,?_,hf ▸ h2 t,λk hk=>h4 t k (by rw[hf];exact hk)⟩;rw[<-hf];refine h.trans ?_;unfold Dx;cases dP jL (t:Int) L<;>rfl
theorem jY.new{w:World}{g:Nat}(h:gQ w g vM bV ([]:List (Int×Bool))):jY w g []:=⟨[],h,λs=>by simp[dP]⟩
theorem jY.put{w:World}{g:Nat}{live:List Nat}(h:jY w g live)(s:Nat):
 ∃W',(Instr.mapUpdate 122 (.map (some g)) (.int .i64 (s:Int)) (.bool true)).run Tryz.prog w= .ok () W'/\jY W' g (live++[s])/\(∀b,b≠g->W'.heap[b]?=w.heap[b]?)/\W'.heap.size=w.heap.size/\Kept (· =g) w W':=by
 obtain⟨L,h1,h2⟩:=h;have bG:=ED (P:=Tryz.prog) qJ Tryz.underlying122 h1 (s:Int) true;obtain⟨W',hW,hp1,hp2,hp3,hp4⟩:=h1.put (l':=jh jL (s:Int) true L);refine⟨W',bG.trans (by rw[hW]),⟨_,hp1,λj=>?_⟩,hp2,hp3,hp4⟩;rw[AY];by_cases e:j=s
 ·subst e
  rw[if_pos rfl];simp
 ·rw[if_neg (cne e),h2 j]
  simp[e]
theorem anx(n:Nat)(h:n<10)(W:World):(convert 21 9 (.int .i32 (48+(n:Int)))).run Tryz.prog W= .ok (.string ⟨(Lib.decDigits n).toArray⟩) W:=by
 rw[Lib.decDigits,dif_pos h]
 have h':n=0\/n=1\/n=2\/n=3\/n=4\/n=5\/n=6\/n=7\/n=8\/n=9:=by omega
 rcases h' with rfl | rfl | rfl | rfl | rfl | rfl | rfl | rfl | rfl | rfl<;>(show _=_;kernel_rfl)
theorem YT(n:Nat):(Lib.decDigits n).length<=n+1:=by
 induction n using Nat.strongRecOn with
 | _ n ih=>
   rw[Lib.decDigits];by_cases h:n<10
   ·rw[dif_pos h];simp
   ·rw[dif_neg h,z5,z16]
    have:=ih (n / 10) zO;omega
theorem XO:∀(n:Nat),n<1000000000->∀w:World,Rt 169 #[.int .i64 (n:Int)] w (.string ⟨(Lib.decDigits n).toArray⟩):=by
 intro n
 induction n using Nat.strongRecOn with
 | _ n ih=>
   intro hn w;by_cases h:n<10
   ·have hd:decide (n<10)=true:=by simp;omega
    have hc:=anx n h;have HC:=zH hc;go_enter Tryz.func169,Tryz.ntmps169;go_wp2_with fail;go_ret;exact⟨rfl,Below.refl _ _⟩
   ·have hd:decide (n<10)=false:=by simp;omega
    have H1:=zH (ih (n / 10) zO zO);have H2:=zH (ih (n % 10) zO zO);have l1:=YT (n / 10);have l2:=YT (n % 10);obtain⟨d1,gJ⟩:=zF (Lib.decDigits (n / 10));obtain⟨d2,jc⟩:=zF (Lib.decDigits (n % 10))
    have HE:Hid (Lib.decDigits n=d1++d2):=zH (by
     rw[<-gJ,<-jc,Lib.decDigits,dif_neg h]
     congr 1
     rw[Lib.decDigits,dif_pos zO])
    rw[gJ] at H1 l1;rw[jc] at H2 l2;clear gJ jc ih;go_enter Tryz.func169,Tryz.ntmps169;go_wp2_with fail;refine ((show ((n / 10:Nat):Int)=(n:Int) / 10 by omega) ▸ H1.out w).mono ?_;rintro e w1 ⟨rfl,ai⟩;go_wp2_with fail;refine ((show ((n % 10:Nat):Int)=(n:Int) % 10 by omega) ▸ H2.out w1).mono ?_;rintro e w2 ⟨rfl,ag⟩;have hL:decide (9223372036854775807<d1.length+d2.length)=false:=(by simp;omega);go_wp2_with fail;go_ret;exact⟨by rw[HE.out];congr 2,ai.seq ag⟩
def u8V(b:UInt8):List Value:=[.int .u8 (b.toNat:Int)]
theorem auf(b:UInt8):(u8V b).length=1:=rfl
theorem aug:(Tryz.prog.info? 5).map (λi=>(i.zero,i.size,i.bytes))=some (some (.int .u8 0),1,1):=by kernel_rfl
theorem tyU:rC Tryz.prog 173 5 (.int .u8 0) 1 1:=sU zK aug zK zD zD
theorem auh(l:List UInt8):∀u∈l.flatMap u8V,u.oneCell'=true:=by
 intro u hu;obtain⟨x,-,hx⟩:=List.mem_flatMap.1 hu;rw[List.mem_singleton.1 hx];rfl
def keyS(s:Nat):List UInt8:=[UInt8.ofNat (s / 256),UInt8.ofNat (s % 256)]
def fH(l:List Nat):ByteArray:=⟨(l.flatMap keyS).toArray⟩
theorem anz{s t:Nat}(hs:s<65536)(ht:t<65536)(h:keyS s=keyS t):s=t:=by
 unfold keyS at h;simp only[List.cons.injEq,and_true] at h;have h1:=congrArg UInt8.toNat h.1;have h2:=congrArg UInt8.toNat h.2;simp only[UInt8.toNat_ofNat'] at h1 h2;omega
theorem adB:∀{l l':List Nat},(∀s∈l,s<65536)->(∀s∈l',s<65536)->l.flatMap keyS=l'.flatMap keyS->l=l'
 | [],[],_,_,_=>rfl
 | [],t::l',_,_,h=>by simp[keyS] at h
 | s::l,[],_,_,h=>by simp[keyS] at h
 | s::l,t::l',h1,h2,h=>by
   rw[List.flatMap_cons,List.flatMap_cons] at h;obtain⟨e1,e2⟩:=List.append_inj h (by simp[keyS]);rw[anz (h1 s zP) (h2 t zP) e1,adB (λx hx=>h1 x (by simp[hx])) (λx hx=>h2 x (by simp[hx])) e2]
theorem EM(l:List Nat)(A:Option Addr)(n c:Nat)(w:World)(F:Nat->Prop)(bQ:aY w F 1 aV l A n)(hn:n<1000000)(hl:∀s∈l,s<65536):
 Rt 58 #[.slice A n c] w (.string (fH l)):=by
 have aI:=bQ.here (λx=>by simp[aV]);have HL:=zH hl;clear bQ hl;go_enter Tryz.func58,Tryz.ntmps58;go_wp2_with fail
 go_loopw [3,8] (λs3 si wr=>∃i:Nat,i<=n/\si= .int .i64 i/\ax wr w.heap.size 5 1 u8V ((l.take i).flatMap keyS) s3/\Bw w wr)
  (λ_ si _=>n - (intOf si).toNat)
 case atStart=>exact⟨0,zO,rfl,ax.nil _ _ _ _ _,Below.refl _ _⟩
 case round=>
  obtain⟨i,hi,rfl,vP,dU⟩:=hrel;have Bz:=dU.size;by_cases aN:i<n
  ·obtain⟨b1,xU,s,HX,p0,dO⟩:=(aI.below dU).nat aN c
   have hd:decide (i<n)=true:=(by simp;omega);have hs:s<65536:=HL.out s (z13 HX.out);obtain⟨w4,vV,XP,NU,aX⟩:=af wr (.cells #[.int .u8 ((s:Int) / 256),.int .u8 ((s:Int) % 256)] 5);have Ed:=vP.keep aX
   have IX:=Src.block (sz:=1) (m:=2) (vs:=(keyS s).flatMap u8V) (by
    have e:(keyS s).flatMap u8V=[.int .u8 ((s:Int) / 256),.int .u8 ((s:Int) % 256)]:=by
     unfold keyS u8V;simp only[List.flatMap_cons,List.flatMap_nil,List.append_nil,List.cons_append,List.nil_append,UInt8.toNat_ofNat'];rw[Nat.mod_eq_of_lt (show s / 256<2 ^ 8 by omega),Nat.mod_eq_of_lt (show s % 256<2 ^ 8 by omega),show ((s / 256:Nat):Int)=(s:Int) / 256 by omega,show ((s % 256:Nat):Int)=(s:Int) % 256 by omega]
    rw[e];exact XP) rfl
   have hlen:((l.take i).flatMap keyS).length<=2*i:=by
    have key:∀l:List Nat,(l.flatMap keyS).length=2*l.length:=λl=>by
     induction l with
     | nil=>rfl
     | cons x l ih=>rw[List.flatMap_cons,z5,ih,z9];simp only[keyS,z9,z24];omega
    rw[key,List.length_take];omega
   clear XP vP;have xW:=dU.trans (aX.mono Bz);have ahR:=xW.size
   go_wp2_with (first
    | (at_builtin;refine Am rfl (.tmp 12) (.tmp 18) 173 rfl tyU auh w.heap.size _ (keyS s) _ rfl Ed _ 2 2 rfl IX rfl zO ahR ?_
       intro v5 w5 RZ hc5
       have Ov:=xW.trans hc5)
    | fail)
   go_roundw
   case rel=>
    refine⟨i+1,zO,by go_num,?_,Ov⟩;have h:=HX.out;obtain⟨h1,rfl⟩:=List.getElem?_eq_some_iff.1 h;rw[List.take_succ_eq_append_getElem h1,List.flatMap_append,List.flatMap_cons,List.flatMap_nil,List.append_nil];exact RZ
   case measure=>simp[intOf];omega
  ·have hd:decide (i<n)=false:=by simp;omega
   have Xt:l.take i=l:=List.take_of_length_le (by have:=aI.len;omega);rw[Xt] at vP
   have hc:(convert 173 9 u3).run Tryz.prog wr= .ok (.string (fH l)) wr:=by
    obtain⟨A',c',e,hr,-,-⟩:=vP.rowAt auf zD (λ_=>True) (λ_ _=>trivial);subst e
    cases A' with
    | none=>
      by_cases h0:(l.flatMap keyS).length=0
      ·have Me:l.flatMap keyS=[]:=List.length_eq_zero_iff.1 h0
       unfold fH;rw[Me];show _=_;kernel_rfl
      ·obtain⟨b,off,hA,-⟩:=hr.2 zO
       cases hA
    | some a=>
      unfold fH;refine run_convert_bytes_back wr 173 9 5 a c' (l.flatMap keyS) zK zK zK λj hj=>?_;obtain⟨b,off,hA,-,fJ⟩:=hr.2 zO;cases hA;have h:=fJ j _ (z6 hj) 0 _ rfl;by_cases hj0:j=0
      ·subst hj0
       simpa[Addr.add] using h
      ·simpa[Addr.add,hj0] using h
   have HC:=zH hc;clear Xt vP;go_wp2_with fail;go_ret;exact⟨rfl,dU⟩
end Go.Proofs.YtgmnnegfndpakaaGreatDoor
namespace Go.Proofs.YtgmnnegfndpakaaGreatDoor
open Go Go.RowKit
section
variable {F:Fence} {n:Nat} {P:Program} {ops:Array Oper} {Q:Exit->Act->World->Prop} {md:Region.Mode} {C:World->Prop} {st:Nat}
def Iq(ops:Array Oper):Bool:=ops.all λo=>match o.op with
 | .defer _=>false
 | _=>true
theorem Sl(h:Iq ops=true){j:Nat}{o:Oper}(ho:ops[j]?=some o):∀c,o.op≠.defer c:=λc e=>by
 unfold Iq at h;rw[Array.all_eq_true] at h;obtain⟨hj,rfl⟩:=Array.getElem?_eq_some_iff.1 ho;have:=h j hj;rw[e] at this;cases this
def sS(P:Program)(ops:Array Oper)(C:World->Prop)(o:Oper)(v:Value)(a:Act):Prop:=YieldsIf P ops C o v a/\∀w,o.about P w a.eval=none
theorem sS.wpOpIn{i:Nat}{o:Oper}{v:Value}{a:Act}(AX:Iq ops=true)(hi:ops[i]?=some o)(hy:sS P ops C o v a)
 {K:Act->World->Prop} {w:World} (hC:C w) (h:K (a.put o.dst v) w):wpOpIn F n P ops Q i K a w:=by
 unfold Go.wpOpIn;simp only[hi]
 have nz:∀f,o.about P w a.eval=some f->F.fn f:=λf hf=>by rw[hy.2 w] at hf;cases hf
 rcases hy.1 with ⟨hw,hv⟩ | ⟨hw,rfl⟩
 ·simp only[hw,if_true,Oper.wpIn,Oper.semAt_plain F _ _ (Sl AX hi),hv w hC,Oper.uponIn];exact⟨nz,h⟩
 ·simp only[hw,Bool.false_eq_true,if_false];exact⟨nz,h⟩
theorem sS.of_same{o:Oper}{v:Value}{a a':Act}(hy:sS P ops C o v a)(he:execOp a'.eval o=execOp a.eval o)
 (hw:Region.wanted o (yielded ops a'.tmps)=Region.wanted o (yielded ops a.tmps)) (hb:∀w,o.about P w a'.eval=o.about P w a.eval):sS P ops C o v a':=
 ⟨hy.1.of_same he hw,λw=>by rw[hb w];exact hy.2 w⟩
theorem afn{j:Nat}{oi oj:Oper}{v:Value}(AX:Iq ops=true)(hj:ops[j]?=some oj)(hap:oi.apart ops oj=true)
 (hsi:∀cs b,oi.op≠.select cs b) (hsj:∀cs b,oj.op≠.select cs b)
 (hQ:∀c a w,Q (.panic c) (a.put oi.dst v) w->Q (.panic c) a w) {K:Act->World->Prop} {a:Act} {w:World}
 (hy:sS P ops C oi v a) (h:wpOpIn F n P ops Q j K (a.put oi.dst v) w):
 wpOpIn F n P ops Q j (λa' w'=>sS P ops C oi v a'/\K (a'.put oi.dst v) w') a w:=by
 obtain⟨h1,h2,h3⟩:=Oper.apart_spec hap
 have keep:∀(a:Act),sS P ops C oi v a->∀u,sS P ops C oi v (a.put oj.dst u):=λa hy u=>
  hy.of_same (execOp_put oi hsi a oj.dst u h3) (wanted_put oi a oj.dst u h3) (λw=>about_put oi w a oj.dst u h3)
 have keepD:∀d,sS P ops C oi v { a with defers:=d::a.defers }:=λd=>hy.of_same rfl rfl (λ_=>rfl);have hnj:=Sl AX hj;unfold wpOpIn at*;simp only[hj] at*;rw[wanted_put oj a oi.dst v h1,about_put oj w a oi.dst v h1] at h
 split
 ·rename_i hw
  simp only[hw,if_true] at h;unfold Oper.wpIn at*;rw[about_put oj w a oi.dst v h1] at h;refine⟨h.1,?_⟩;have h:=h.2;rw[Oper.semAt_plain F _ _ hnj,execOp_put oj hsj a oi.dst v h1] at h;rw[Oper.semAt_plain F _ _ (hnj)];generalize (execOp a.eval oj).run P w=r at*
  cases r with
  | ok x w'=>
    cases x<;>simp only[Oper.uponIn] at h ⊢
    case value u=>exact⟨keep a hy u,by rw[<-Act.put_comm a v u h2];exact h⟩
    case skip=>exact⟨keep a hy _,by rw[<-Act.put_comm a v undef h2];exact h⟩
    case defer d=>
     refine⟨keep _ (keepD d) _,?_⟩;rw[<-Act.put_comm _ v undef h2,<-Act.put_defers];exact h
    case enter f args=>
     refine⟨h.1,CallsIn.mono h.2 λe w'' he=>?_⟩
     cases e with
     | returned u=>exact⟨keep a hy u,by rw[<-Act.put_comm a v u h2];exact he⟩
     | panicked c=>exact hQ _ _ _ he
     | outgrown=>exact he
    case row row args=>exact⟨h.1,RowsIn.mono h.2 λu w'' he=>⟨keep a hy u,by rw[<-Act.put_comm a v u h2];exact he⟩⟩
    case round l f tmps assign body=>
     refine⟨h.1,RoundIn.mono h.2 λe w'' he=>?_⟩
     cases e with
     | returned u=>exact⟨keep a hy u,by rw[<-Act.put_comm a v u h2];exact he⟩
     | panicked c=>exact hQ _ _ _ he
     | outgrown=>exact he
  | halt x w'=>
    cases x<;>simp only[Oper.uponIn] at h ⊢
    case panic u=>exact hQ _ _ _ h
 ·rename_i hw
  simp only[hw] at h;exact⟨h.1,keep a hy _,by rw[<-Act.put_comm a v undef h2];exact h.2⟩
def lF(F:Fence)(n:Nat)(P:Program)(md:Region.Mode)(ops:Array Oper)(Q:Exit->Act->World->Prop)(C:World->Prop)(st:Nat):Nat->Array Bool->Act->World->Prop
 | 0,l,a,w=>Region.ready md ops l=[]/\Q .normal a w
 | k+1,l,a,w=>(Region.ready md ops l=[]->Q .normal a w)/\
   ∀i∈Region.ready md ops l,wpOpIn F n P ops Q i (λa' w'=>Till C st (l.setIfInBounds i true) w'/\lF F n P md ops Q C st k (l.setIfInBounds i true) a' w') a w
theorem lF.any:∀(k:Nat) (l:Array Bool) (a:Act) (w:World),lF F n P md ops Q C st k l a w->wpAnyIn F n P md ops Q k l a w
 | 0,_,_,_,h=>h
 | k+1,_,_,_,h=>⟨h.1,λi hi=>wpOpIn_mono (λa' w' h'=>lF.any k _ a' w' h'.2) (h.2 i hi)⟩
theorem lF.first{i:Nat}{oi:Oper}{v:Value}{y:Nat}{r:List Nat}(AX:Iq ops=true)(hi:ops[i]?=some oi)(hp:Ia md ops (i::y::r)=true)(hl:(y::r).getLast?=some st)
 (CW:∀(j:Nat) (o:Oper) cs b,ops[j]?=some o->o.op≠.select cs b) (hQ:∀c a w,Q (.panic c) (a.put oi.dst v) w->Q (.panic c) a w):
 ∀(k:Nat) (l:Array Bool) (a:Act) (w:World),EL md ops l->
  (∀j oj,ops[j]?=some oj->j≠i->l.getD j true=false->(∀e∈oj.after,Region.binds md e=true->e.on≠i)->oi.apart ops oj=true)->
  i∈Region.ready md ops l->l.getD st true=false->i≠st->sS P ops C oi v a->C w->
  lF F n P md ops Q C st k (l.setIfInBounds i true) (a.put oi.dst v) w->lF F n P md ops Q C st (k+1) l a w:=by
 intro k
 induction k with
 | zero=>
   intro l a w _ _ hr hs oP hy hC H;refine⟨λh=>(by rw[h] at hr;cases hr),λj hj=>?_⟩;by_cases mg:j=i
   ·rw[mg];exact hy.wpOpIn AX hi hC ⟨λ_=>hC,H⟩
   ·have h0:=ready_mono hj mg
    rw[H.1] at h0;cases h0
 | succ k ih=>
   intro l a w eH yz hr hs oP hy hC H;refine⟨λh=>(by rw[h] at hr;cases hr),λj hj=>?_⟩;by_cases mg:j=i
   ·rw[mg];exact hy.wpOpIn AX hi hC ⟨λ_=>hC,H⟩
   obtain⟨JL,oj,AB,dW⟩:=mem_ready.1 hj;have Fg:=(mem_ready.1 hr).1
   have La:∀e∈oj.after,Region.binds md e=true->e.on≠i:=λe he hb heq=>by
    have h1:=dW e he hb;rw[heq] at h1
    rcases Nat.lt_or_ge i l.size with aN | jT
    ·simp[aN] at Fg h1;rw[Fg] at h1;cases h1
    ·simp[Array.getElem?_eq_none jT] at h1
   have ZE:j≠st:=λe=>XF eH r i y Fg hp hl (e ▸ hj);have h2:=afn AX AB (yz j oj AB mg JL La) (λcs b=>CW i oi cs b hi) (λcs b=>CW j oj cs b AB) hQ hy (H.2 j (ready_mono hj mg));refine wpOpIn_mono (λa' w' h3=>?_) h2;obtain⟨QO,hT,hA⟩:=h3;have uS:(l.setIfInBounds j true).getD st true=false:=(by rw[getD_set_ne true ZE];exact hs);have hC':C w':=hT (by rw[getD_set_ne true ZE,getD_set_ne true oP];exact hs);refine⟨λ_=>hC',ih (l.setIfInBounds j true) a' w' (eH.set hj) (λk ok hk o9 JM BL=>?_) (ready_mono hr (Ne.symm mg)) uS oP QO hC' ?_⟩
   ·refine yz k ok hk o9 ?_ BL
    by_cases FB:j=k
    ·rw[<-FB];exact JL
    ·rw[getD_set_ne true FB] at JM;exact JM
   ·rw[Array.setIfInBounds_comm _ _ mg]
    exact hA
theorem lF.take{i:Nat}{oi:Oper}{v:Value}{k:Nat}{l:Array Bool}{a:Act}{w:World}(y:Nat)(r:List Nat)(AX:Iq ops=true)(hi:ops[i]?=some oi)(hp:Ia md ops (i::y::r)=true)(hl:(y::r).getLast?=some st)
 (hs:Region.noSelect ops=true) (eH:MF md ops l=true) (hf:Region.free md ops l i=true) (hr:(Region.ready md ops l).contains i=true) (bZ:l.getD st true=false) (oP:i≠st)
 (hQ:∀c a w,Q (.panic c) (a.put oi.dst v) w->Q (.panic c) a w) (hy:sS P ops C oi v a) (hC:C w)
 (h:lF F n P md ops Q C st k (l.setIfInBounds i true) (a.put oi.dst v) w):lF F n P md ops Q C st (k+1) l a w:=
 lF.first AX hi hp hl (Region.noSelect_spec hs) hQ k l a w (RS eH) (Region.free_spec hi hf) (by simpa using hr) bZ oP hy hC h
theorem lF.tk(i y:Nat)(r:List Nat){oi:Oper}{v:Value}{k:Nat}{l:Array Bool}{a a':Act}{w:World}(hC:C w)(h:lF F n P md ops Q C st k (l.setIfInBounds i true) a' w)(AX:Iq ops=true:=by kernel_rfl)(hi:ops[i]?=some oi:=by exact aB rfl)(hl:(y::r).getLast?=some st:=by kernel_rfl)(hb:(okT md ops st i l&&(Ia md ops (i::y::r)&&(MF md ops l&&!l.getD st true)))=true:=by kernel_rfl)
 (hy:sS P ops C oi v a:=by (first | exact⟨Or.inr ⟨zL,rfl⟩,λ_=>rfl⟩ | (refine⟨Or.inl ⟨zL,?_⟩,λ_=>rfl⟩;intro w hSw;(try dsimp only at hSw);go_simp;all_goals (try with_reducible rfl)))) (hQ:∀c a w,Q (.panic c) (a.put oi.dst v) w->Q (.panic c) a w:=by exact λ_ _ _ h=>h) (ha:a.put oi.dst v=a':=by ((try simp only[Act.put,List.setIfInBounds_toArray,List.set_cons_zero,List.set_cons_succ]);exact rfl)):lF F n P md ops Q C st (k+1) l a w:=by
 subst ha;simp only[z7] at hb;obtain⟨h1,h2,h3,h4⟩:=NK hb.1;exact lF.take y r AX hi hb.2.1 hl h1 hb.2.2.1 h2 h3 (by simpa using hb.2.2.2) h4 hQ hy hC h
theorem lF.done{l:Array Bool}{a:Act}{w:World}(hr:Region.ready md ops l=[])(h:Q .normal a w):∀k,lF F n P md ops Q C st k l a w
 | 0=>⟨hr,h⟩
 | _+1=>⟨λ_=>h,by rw[hr];simp⟩
theorem lF.one{i:Nat}{o:Oper}{k:Nat}{l:Array Bool}{a:Act}{w:World}(hr:Region.ready md ops l=[i])(ho:ops[i]?=some o)
 (h:∀K:Act->World->Prop,Shut (∀a w,(Till C st (l.setIfInBounds i true) w)->lF F n P md ops Q C st k (l.setIfInBounds i true) a w->K a w)->if Region.wanted o (yielded ops a.tmps)=true then Oper.wpIn F n P o a w K Q else (∀f,o.about P w a.eval=some f->F.fn f)/\K (a.put o.dst undef) w):lF F n P md ops Q C st (k+1) l a w:=by
 refine⟨λh0=>(by rw[h0] at hr;cases hr),λj hj=>?_⟩;rw[hr,og] at hj;rw[hj];exact wpOpIn_step ho λK hK=>h K λa w h1 h2=>hK a w ⟨h1,h2⟩
theorem lF.start{id:Nat}{a:Act}{w:World}(C:World->Prop)(st:Nat)(hm:P.follows .mixedOrders=true)(h:lF F n P .any ops Q C st ops.size (Array.replicate ops.size false) a w.drew):(Code.region id ops true).wpIn F n P Q a w:=
 wpIn_region_any hm (lF.any _ _ _ _ h)
def abq(Q:Exit->Act->World->Prop):Exit->Act->World->Prop
 | .panic _,_,_=>False
 | .normal,a,w=>Q .normal a w
 | .ret,a,w=>Q .ret a w
 | .exit i,a,w=>Q (.exit i) a w
 | .goto i,a,w=>Q (.goto i) a w
 | .outgrown,a,w=>Q .outgrown a w
theorem anB{e:Exit}{a:Act}{w:World}(h:abq Q e a w):Q e a w:=by
 cases e<;>first | exact h | exact h.elim
theorem aP.ak2{id:Nat}{a:Act}{w:World}(C:World->Prop)(st:Nat)(hm:P.follows .mixedOrders=true)(h:aP F n P .any ops (abq Q) C st ops.size (Array.replicate ops.size false) a w.drew):(Code.region id ops true).wpIn F n P Q a w:=
 wpIn_mono (aP.start C st hm h) λ_ _ _ h=>anB h
theorem Jn{o:Oper}{a:Act}{w w':World}{K:Act->World->Prop}(s x:Operand)(t:TypeId)
 (uQ:o.op= .call { callee:=.builtin .append,args:=#[s,x],argTypes:=#[t,t] }) {v1 v2 v:Value} (hw:Region.wanted o (yielded ops a.tmps)=true) (hs:a.eval s=v1) (hx:a.eval x=v2) (bG:(Builtin.append_ #[t,t] o.type #[v1,v2]).run P w= .ok v w')
 (h:K (a.put o.dst v) w'):if Region.wanted o (yielded ops a.tmps)=true then Oper.wpIn F n P o a w K Q else (∀f,o.about P w a.eval=some f->F.fn f)/\K (a.put o.dst undef) w:=by
 rw[if_pos hw];unfold Oper.wpIn;refine⟨?_,?_⟩
 ·simp[Oper.about,uQ,resolve,Target.leads,Sem.run_pure]
 ·rw[Oper.semAt_plain F _ _ (by rw[uQ];intro c yu;cases yu)]
  simp[execOp,uQ,resolve,invoke,builtin,hs,hx,bG,Result.andThen,Oper.uponIn];exact h
end
end Go.Proofs.YtgmnnegfndpakaaGreatDoor
namespace Go.Proofs.YtgmnnegfndpakaaGreatDoor
open Go.RowKit
theorem adY{n:Nat}(a:ByteArray)(h:0<n):dL a n=a++⟨(Lib.decDigits n).toArray⟩:=by
 unfold dL pG;rw[if_neg zO]
theorem aaL(n:Nat):n<1000000000->(Lib.decDigits n).length<1000000001:=λh=>by
 have:=YT n;omega
theorem adZ(g1 g2:Nat)(pre:ByteArray)(tk:Nat->Bool)(I:Nat)(hI:tk I=false/\∀i,i<I->tk i=true)(hb:I<1000000)(hp:pre.size<1000000000)(w:World)
 (eH:∀k,k<=I->∀W:World,Bw w W->Rt 128 #[.string (dL pre k),.pointer (some ⟨g1,0,none⟩),.pointer (some ⟨g2,0,none⟩)] W (.bool (tk k))):
 Rt 127 #[.string pre,.func (.func 128) #[] #[.pointer (some ⟨g1,0,none⟩),.pointer (some ⟨g2,0,none⟩)]] w (.string (dL pre I)):=by
 have HI:=zH hI;have vJ:=zH eH;clear hI eH;go_enter Tryz.func127,Tryz.ntmps127;go_wp2_with fail
 go_loopw [5] (λsi wr=>∃i:Nat,i<=I/\si= .int .i64 i/\Bw w wr)
  (λsi _=>I - (intOf si).toNat)
 case atStart=>exact⟨0,zO,rfl,Below.refl _ _⟩
 case round=>
  obtain⟨i,hi,rfl,dU⟩:=hrel;obtain⟨v,hv⟩:=zF (tk i);have HV:=zH hv;by_cases h0:0<i
  ·have hd:decide (0<i)=true:=by simp;omega
   obtain⟨d,J4⟩:=zF (Lib.decDigits i);have HN:Hid (dL pre i=pre++⟨d.toArray⟩):=zH (by rw[<-J4];exact adY pre h0)
   have hdl:d.length<1000000001:=by
    have:=aaL i zO;rw[J4] at this;exact this
   have hL:decide (9223372036854775807<pre.size+d.length)=false:=(by simp;omega);have HD:=zH (XO i zO wr);rw[J4] at HD;clear J4;go_wp2_with fail;refine HD.out.mono ?_;rintro e w2 ⟨rfl,ag⟩;have aH:=dU.trans (ag.mono dU.size);have HC:=zH (vJ.out i hi w2 aH);rw[HN.out,hv] at HC;clear hv;cases v
   ·go_wp2_with fail
    refine HC.out.mono ?_;rintro e w3 ⟨rfl,az⟩;have aX:=aH.trans (az.mono aH.size)
    have he:Hid (i=I):=zH (by
     rcases Nat.lt_or_ge i I with h | h
     ·have:=HI.out.2 i h
      rw[HV.out] at this;cases this
     ·omega)
    go_wp2_with fail;go_ret;exact⟨by rw[<-he.out,HN.out];rfl,aX⟩
   ·go_wp2_with fail
    refine HC.out.mono ?_;rintro e w3 ⟨rfl,az⟩;have aX:=aH.trans (az.mono aH.size)
    have he:i<I:=by
     rcases Nat.lt_or_ge i I with h | h
     ·exact h
     ·have e:i=I:=by omega
      have:=HI.out.1;rw[<-e,HV.out] at this;cases this
    go_wp2_with fail;go_roundw
    case rel=>exact⟨i+1,zO,by go_num,aX⟩
    case measure=>simp[intOf];omega
  ·have hd:decide (0<i)=false:=by simp;omega
   have HN:Hid (dL pre i=pre):=zH (by rw[show i=0 by omega];exact Rw pre);have HC:=zH (vJ.out i hi wr dU);rw[HN.out,hv] at HC;clear hv;cases v
   ·go_wp2_with fail
    refine HC.out.mono ?_;rintro e w3 ⟨rfl,az⟩;have aX:=dU.trans (az.mono dU.size)
    have he:Hid (i=I):=zH (by
     rcases Nat.lt_or_ge i I with h | h
     ·have:=HI.out.2 i h
      rw[HV.out] at this;cases this
     ·omega)
    go_wp2_with fail;go_ret;exact⟨by rw[<-he.out,HN.out];rfl,aX⟩
   ·go_wp2_with fail
    refine HC.out.mono ?_;rintro e w3 ⟨rfl,az⟩;have aX:=dU.trans (az.mono dU.size)
    have he:i<I:=by
     rcases Nat.lt_or_ge i I with h | h
     ·exact h
     ·have e:i=I:=by omega
      have:=HI.out.1;rw[<-e,HV.out] at this;cases this
    go_wp2_with fail;go_roundw
    case rel=>exact⟨i+1,zO,by go_num,aX⟩
    case measure=>simp[intOf];omega
theorem ad1(g1:Nat)(pre:ByteArray)(tk:Nat->Bool)(I:Nat)(hI:tk I=false/\∀i,i<I->tk i=true)(hb:I<1000000)(hp:pre.size<1000000000)(w:World)
 (eH:∀k,k<=I->∀W:World,Bw w W->Rt 130 #[.string (dL pre k),.pointer (some ⟨g1,0,none⟩)] W (.bool (tk k))):
 Rt 127 #[.string pre,.func (.func 130) #[] #[.pointer (some ⟨g1,0,none⟩)]] w (.string (dL pre I)):=by
 have HI:=zH hI;have vJ:=zH eH;clear hI eH;go_enter Tryz.func127,Tryz.ntmps127;go_wp2_with fail
 go_loopw [5] (λsi wr=>∃i:Nat,i<=I/\si= .int .i64 i/\Bw w wr)
  (λsi _=>I - (intOf si).toNat)
 case atStart=>exact⟨0,zO,rfl,Below.refl _ _⟩
 case round=>
  obtain⟨i,hi,rfl,dU⟩:=hrel;obtain⟨v,hv⟩:=zF (tk i);have HV:=zH hv;by_cases h0:0<i
  ·have hd:decide (0<i)=true:=by simp;omega
   obtain⟨d,J4⟩:=zF (Lib.decDigits i);have HN:Hid (dL pre i=pre++⟨d.toArray⟩):=zH (by rw[<-J4];exact adY pre h0)
   have hdl:d.length<1000000001:=by
    have:=aaL i zO;rw[J4] at this;exact this
   have hL:decide (9223372036854775807<pre.size+d.length)=false:=(by simp;omega);have HD:=zH (XO i zO wr);rw[J4] at HD;clear J4;go_wp2_with fail;refine HD.out.mono ?_;rintro e w2 ⟨rfl,ag⟩;have aH:=dU.trans (ag.mono dU.size);have HC:=zH (vJ.out i hi w2 aH);rw[HN.out,hv] at HC;clear hv;cases v
   ·go_wp2_with fail
    refine HC.out.mono ?_;rintro e w3 ⟨rfl,az⟩;have aX:=aH.trans (az.mono aH.size)
    have he:Hid (i=I):=zH (by
     rcases Nat.lt_or_ge i I with h | h
     ·have:=HI.out.2 i h
      rw[HV.out] at this;cases this
     ·omega)
    go_wp2_with fail;go_ret;exact⟨by rw[<-he.out,HN.out];rfl,aX⟩
   ·go_wp2_with fail
    refine HC.out.mono ?_;rintro e w3 ⟨rfl,az⟩;have aX:=aH.trans (az.mono aH.size)
    have he:i<I:=by
     rcases Nat.lt_or_ge i I with h | h
     ·exact h
     ·have e:i=I:=by omega
      have:=HI.out.1;rw[<-e,HV.out] at this;cases this
    go_wp2_with fail;go_roundw
    case rel=>exact⟨i+1,zO,by go_num,aX⟩
    case measure=>simp[intOf];omega
  ·have hd:decide (0<i)=false:=by simp;omega
   have HN:Hid (dL pre i=pre):=zH (by rw[show i=0 by omega];exact Rw pre);have HC:=zH (vJ.out i hi wr dU);rw[HN.out,hv] at HC;clear hv;cases v
   ·go_wp2_with fail
    refine HC.out.mono ?_;rintro e w3 ⟨rfl,az⟩;have aX:=dU.trans (az.mono dU.size)
    have he:Hid (i=I):=zH (by
     rcases Nat.lt_or_ge i I with h | h
     ·have:=HI.out.2 i h
      rw[HV.out] at this;cases this
     ·omega)
    go_wp2_with fail;go_ret;exact⟨by rw[<-he.out,HN.out];rfl,aX⟩
   ·go_wp2_with fail
    refine HC.out.mono ?_;rintro e w3 ⟨rfl,az⟩;have aX:=dU.trans (az.mono dU.size)
    have he:i<I:=by
     rcases Nat.lt_or_ge i I with h | h
     ·exact h
     ·have e:i=I:=by omega
      have:=HI.out.1;rw[<-e,HV.out] at this;cases this
    go_wp2_with fail;go_roundw
    case rel=>exact⟨i+1,zO,by go_num,aX⟩
    case measure=>simp[intOf];omega
end Go.Proofs.YtgmnnegfndpakaaGreatDoor
namespace Go.Proofs.YtgmnnegfndpakaaGreatDoor
open Go Go.RowKit
section
variable {F:Fence} {n:Nat} {P:Program} {ops:Array Oper} {Q:Exit->Act->World->Prop} {md:Region.Mode} {C:World->Prop} {st:Nat}
theorem aP.Vo{i:Nat}{oi:Oper}{v:Value}(Cf:F.round=none)(hi:ops[i]?=some oi)
 (CW:∀(j:Nat) (o:Oper) cs b,ops[j]?=some o->o.op≠.select cs b) (hQ:∀c a w,Q (.panic c) (a.put oi.dst v) w->Q (.panic c) a w):
 ∀(k:Nat) (l:Array Bool) (a:Act) (w:World),
  (∀j oj,ops[j]?=some oj->j≠i->l.getD j true=false->(∀e∈oj.after,Region.binds md e=true->e.on≠i)->oi.apart ops oj=true)->
  i∈Region.ready md ops l->i≠st->o7 P ops (λ_=>True) oi v a->Till C st l w->
  aP F n P md ops Q C st k (l.setIfInBounds i true) (a.put oi.dst v) w->aP F n P md ops Q C st (k+1) l a w:=by
 intro k
 induction k with
 | zero=>
   intro l a w _ hr oP hy hC H;refine⟨λh=>(by rw[h] at hr;cases hr),λj hj=>?_⟩;by_cases mg:j=i
   ·rw[mg];exact hy.wpOpIn Cf hi trivial ⟨λh=>hC (by rw[getD_set_ne true oP] at h;exact h),H⟩
   ·have h0:=ready_mono hj mg
    rw[H.1] at h0;cases h0
 | succ k ih=>
   intro l a w yz hr oP hy hC H;refine⟨λh=>(by rw[h] at hr;cases hr),λj hj=>?_⟩;by_cases mg:j=i
   ·rw[mg];exact hy.wpOpIn Cf hi trivial ⟨λh=>hC (by rw[getD_set_ne true oP] at h;exact h),H⟩
   obtain⟨JL,oj,AB,dW⟩:=mem_ready.1 hj;have Fg:=(mem_ready.1 hr).1
   have La:∀e∈oj.after,Region.binds md e=true->e.on≠i:=λe he hb heq=>by
    have h1:=dW e he hb;rw[heq] at h1
    rcases Nat.lt_or_ge i l.size with aN | jT
    ·simp[aN] at Fg h1;rw[Fg] at h1;cases h1
    ·simp[Array.getElem?_eq_none jT] at h1
   have h2:=UN Cf AB (yz j oj AB mg JL La) (λcs b=>CW i oi cs b hi) (λcs b=>CW j oj cs b AB) hQ hy (H.2 j (ready_mono hj mg));refine wpOpIn_mono (λa' w' h3=>?_) h2;obtain⟨QO,hT,hA⟩:=h3;rw[Array.setIfInBounds_comm _ _ (Ne.symm mg)] at hT hA;have hT':Till C st (l.setIfInBounds j true) w':=λh=>hT (by rw[getD_set_ne true oP];exact h);refine⟨hT',ih (l.setIfInBounds j true) a' w' (λz ok hk o9 JM BL=>?_) (ready_mono hr (Ne.symm mg)) oP QO hT' hA⟩;refine yz z ok hk o9 ?_ BL;by_cases FB:j=z
   ·rw[<-FB];exact JL
   ·rw[getD_set_ne true FB] at JM;exact JM
theorem aP.zJ{i:Nat}{oi:Oper}{v:Value}{k:Nat}{l:Array Bool}{a:Act}{w:World}(Cf:F.round=none)(hi:ops[i]?=some oi)
 (hs:Region.noSelect ops=true) (hf:Region.free md ops l i=true) (hr:(Region.ready md ops l).contains i=true) (oP:i≠st)
 (hQ:∀c a w,Q (.panic c) (a.put oi.dst v) w->Q (.panic c) a w) (hy:o7 P ops (λ_=>True) oi v a) (hC:C w)
 (h:aP F n P md ops Q C st k (l.setIfInBounds i true) (a.put oi.dst v) w):aP F n P md ops Q C st (k+1) l a w:=
 aP.Vo Cf hi (Region.noSelect_spec hs) hQ k l a w (Region.free_spec hi hf) (by simpa using hr) oP hy (λ_=>hC) h
theorem aP.two{i j:Nat}{o o':Oper}{k:Nat}{l:Array Bool}{a:Act}{w:World}(hr:Region.ready md ops l=[i,j])(ho:ops[i]?=some o)(yR:ops[j]?=some o')
 (h:∀K:Act->World->Prop,Shut (∀a w,(Till C st (l.setIfInBounds i true) w)->aP F n P md ops Q C st k (l.setIfInBounds i true) a w->K a w)->if Region.wanted o (yielded ops a.tmps)=true then Oper.wpIn F n P o a w K Q else (∀f,o.about P w a.eval=some f->F.fn f)/\K (a.put o.dst undef) w)
 (h':∀K:Act->World->Prop,Shut (∀a w,(Till C st (l.setIfInBounds j true) w)->aP F n P md ops Q C st k (l.setIfInBounds j true) a w->K a w)->if Region.wanted o' (yielded ops a.tmps)=true then Oper.wpIn F n P o' a w K Q else (∀f,o'.about P w a.eval=some f->F.fn f)/\K (a.put o'.dst undef) w):aP F n P md ops Q C st (k+1) l a w:=by
 refine⟨λh0=>(by rw[h0] at hr;cases hr),λz hk=>?_⟩;rw[hr] at hk;simp only[z15,List.not_mem_nil,or_false] at hk
 rcases hk with rfl | rfl
 ·exact wpOpIn_step ho λK hK=>h K λa w h1 h2=>hK a w ⟨h1,h2⟩
 ·exact wpOpIn_step yR λK hK=>h' K λa w h1 h2=>hK a w ⟨h1,h2⟩
end
end Go.Proofs.YtgmnnegfndpakaaGreatDoor
namespace Go.Proofs.YtgmnnegfndpakaaGreatDoor
open Go Go.RowKit
def aeO(e:List D):Prop:=∃v r,e= .val v::r/\∀A n c,v≠.slice A n c
mutual
def nsV:D->Prop
 | .val _=>True
 | .sl _ es=>uN es
def uN:List (List D)->Prop
 | []=>True
 | e::es=>(aeO e/\zG e)/\uN es
def zG:List D->Prop
 | []=>True
 | d::ds=>nsV d/\zG ds
end
def SlB(w:World)(q:Nat):Prop:=∀off v,w.cell? ⟨q,off,none⟩=some v->∃A n c,v= .slice A n c
theorem al4{w:World}{q:Nat}{A:Option Addr}{n c:Nat}{t:TypeId}(h:w.heap[q]?=some (.cells #[.slice A n c] t)):SlB w q:=λoff v hv=>by
 rw[cell_of_row w q _ _ _ _ h] at hv
 cases off with
 | zero=>exact⟨A,n,c,by simpa using hv.symm⟩
 | succ k=>simp at hv
theorem aeO.ne{w:World}{F:Nat->Prop}{q b off:Nat}{e:List D}{cs:List Value}(he:aeO e)(hq:SlB w q)(hc:cu w b off cs)(hr:au w F e cs):b≠q:=λh=>by
 subst h;obtain⟨v,r,rfl,hv⟩:=he;rw[au.gu] at hr;obtain⟨u,r',rfl,h1,-⟩:=hr;rw[gI.rq] at h1;subst h1;obtain⟨A,n,c,e⟩:=hq _ _ (hc 0 u rfl);exact hv A n c e
mutual
theorem gI.yI{w:World}{F:Nat->Prop}{q:Nat}(hq:SlB w q):∀(d:D) (v:Value),nsV d->gI w F d v->gI w (λk=>F k/\k≠q) d v
 | .val v,u,_,h=>by rw[gI] at h ⊢;exact h
 | .sl sz es,u,ho,h=>by
   rw[nsV] at ho;rw[gI] at h ⊢;obtain⟨A,c,e,hl,h1⟩:=h;refine⟨A,c,e,hl,λhp=>?_⟩;obtain⟨b,off,ha,hb,hr⟩:=h1 hp;obtain⟨g1,g2⟩:=bK.yI hq sz es b off ho hr;exact⟨b,off,ha,⟨hb,g2 (by intro e;rw[e] at hp;simp at hp)⟩,g1⟩
theorem bK.yI{w:World}{F:Nat->Prop}{q:Nat}(hq:SlB w q)(sz:Nat):∀(es:List (List D)) (b off:Nat),uN es->bK w F sz es b off->bK w (λk=>F k/\k≠q) sz es b off/\(es≠[]->b≠q)
 | [],_,_,_,_=>⟨by rw[bK];trivial,λh=>absurd rfl h⟩
 | e::es,b,off,ho,h=>by
   rw[uN] at ho;rw[bK] at h ⊢;obtain⟨⟨cs,hc,hr⟩,hl⟩:=h;exact⟨⟨⟨cs,hc,au.yI hq e cs ho.1.2 hr⟩,(bK.yI hq sz es b (off+sz) ho.2 hl).1⟩,λ_=>ho.1.1.ne hq hc hr⟩
theorem au.yI{w:World}{F:Nat->Prop}{q:Nat}(hq:SlB w q):∀(ds:List D) (cs:List Value),zG ds->au w F ds cs->au w (λk=>F k/\k≠q) ds cs
 | [],_,_,h=>by rw[au] at h ⊢;exact h
 | d::ds,cs,ho,h=>by
   rw[zG] at ho;rw[au] at h ⊢;obtain⟨v,r,e,h1,h2⟩:=h;exact⟨v,r,e,gI.yI hq d v ho.1 h1,au.yI hq ds r ho.2 h2⟩
end
theorem bM.yI{w:World}{F:Nat->Prop}{q:Nat}(hq:SlB w q){sz:Nat}{es:List (List D)}{A:Option Addr}{n:Nat}(ho:uN es)(h:bM w F sz es A n):bM w (λk=>F k/\k≠q) sz es A n:=by
 refine⟨h.1,λhp=>?_⟩;obtain⟨b,off,hA,hb,hr⟩:=h.2 hp;obtain⟨g1,g2⟩:=bK.yI hq sz es b off ho hr;exact⟨b,off,hA,⟨hb,g2 (by intro e;have:=h.1;rw[e] at this;simp at this;omega)⟩,g1⟩
theorem aaY{es:List (List D)}:uN es↔∀e∈es,aeO e/\zG e:=by
 induction es with
 | nil=>rw[uN];simp
 | cons e es ih=>rw[uN,ih];simp
theorem LP{a b:List D}:zG (a++b)↔zG a/\zG b:=by
 induction a with
 | nil=>rw[List.nil_append,zG];simp
 | cons d a ih=>rw[List.cons_append,zG,zG,ih,and_assoc]
mutual
theorem al5:∀c:aT,zG (wC c)
 | .mk k ns nl s ex ar=>by
   rw[Es];simp only[zG,nsV,true_and,and_true];exact⟨Zg ex,Zg ar⟩
theorem Zg:∀l:List aT,uN (l.map wC)
 | []=>by rw[List.map_nil,uN];trivial
 | c::l=>by
   rw[List.map_cons,uN];exact⟨⟨by cases c;rw[Es];exact⟨_,_,rfl,λ_ _ _ h=>by cases h⟩,al5 c⟩,Zg l⟩
end
theorem al6(p:aJ):aeO (aZ p):=by
 cases p;rw[Et];exact⟨_,_,rfl,λ_ _ _ h=>by cases h⟩
mutual
theorem al7:∀p:aJ,zG (aZ p)
 | .mk k mn mx el c pr args=>by
   rw[Et,LP,LP];simp only[zG,nsV,true_and,and_true];exact⟨al5 c,Zh args⟩
theorem Zh:∀l:List aJ,uN (l.map aZ)
 | []=>by rw[List.map_nil,uN];trivial
 | p::l=>by
   rw[List.map_cons,uN];exact⟨⟨al6 p,al7 p⟩,Zh l⟩
end
theorem al8(l:List Nat):uN (l.map Dl):=by
 rw[aaY];intro e he;obtain⟨x,_,rfl⟩:=List.mem_map.1 he;exact⟨⟨_,_,rfl,λ_ _ _ h=>by cases h⟩,by simp[Dl,zG,nsV]⟩
theorem aw7(l:List aU):uN (l.map Jb):=by
 rw[aaY];intro e he;obtain⟨x,_,rfl⟩:=List.mem_map.1 he;unfold Jb;refine⟨?_,?_⟩
 ·obtain⟨v,r,h1,h2⟩:=al6 x.leaf
  exact⟨v,_,by rw[h1,List.cons_append],h2⟩
 ·rw[LP]
  simp only[zG,nsV,true_and,and_true];exact⟨al7 _,al8 _⟩
theorem mO.yI{w:World}{B bm q:Nat}{m:eQ}(h:mO w B bm m){A:Option Addr}{n c:Nat}(hq:w.heap[q]?=some (.cells #[.slice A n c] 58)){eA:Option Addr}{en ec:Nat}(h0:w.cell? ⟨bm,0,none⟩=some (.slice eA en ec))(he:bM w (λk=>k<B/\k≠q) 1 (m.elems.map nU) eA en):Gs w (λk=>k<B/\k≠q) bm m:=by
 obtain⟨eA',en',ec',pA,pn,pc,fA,fn,fc,mb,aA,an,ac,h1,h2,h3,h4,h5,h6,h7,h8,h9⟩:=h;have hs:=al4 hq;have e0:=(uK h1).1;rw[h0] at e0;simp only[Option.some.injEq,Value.slice.injEq] at e0;obtain⟨rfl,rfl,rfl⟩:=e0;exact⟨_,_,_,pA,pn,pc,fA,fn,fc,mb,aA,an,ac,h1,⟨h2,λe=>by rw[e,hq] at h1;simp at h1⟩,⟨h3,λe=>by have h7':w.heap[mb]?=_:=h7;rw[e,hq] at h7';simp[Ag] at h7'⟩,he,bM.yI hs (aw7 _) h5,bM.yI hs (al8 _) h6,h7,bM.yI hs (Zh _) h8,h9⟩
theorem ao4(m:eQ)(F:Nat->Prop)(bm g1 g2 s:Nat)(w0:World)(X:Nat->Prop)(hM:Gs w0 F bm m)(fQ:mQ m)(hB:∀q,F q->q<w0.heap.size)(h1:w0.heap[g1]?=some (.cells #[.pointer (some ⟨bm,0,none⟩)] 93))(h2:w0.heap[g2]?=some (.cells #[.int .i64 s] 3))(hX:∀q,X q->¬F q/\g1≠q/\g2≠q)(hs:YR m s):
 ∃rl:List SP,rl.map (·.1)=gK m s/\(∀x∈rl,au w0 F (aZ x.1.leaf) x.2.cells)/\yF Tryz.prog 145 #[.pointer (some ⟨g1,0,none⟩),.pointer (some ⟨g2,0,none⟩)] spE X (· =rl) (· <+:rl) w0:=by
 obtain⟨rl,h3,h4,h5⟩:∃rl:List SC,rl.map (·.1)=gK m s/\(∀x∈rl,au w0 F (aZ x.1.leaf) x.2)/\yF Tryz.prog 145 #[.pointer (some ⟨g1,0,none⟩),.pointer (some ⟨g2,0,none⟩)] EK X (· =rl) (· <+:rl) w0:=by
  by_cases dW:m.all=[]
  ·exact aav m F bm g1 g2 s w0 X hM fQ hB h1 h2 hX dW (hs.1 dW)
  ·exact aax m F bm g1 g2 s w0 X hM fQ hB h1 h2 hX dW hs.2
 have key:∀l:List SC,(∀x∈l,au w0 F (aZ x.1.leaf) x.2)->∃l':List SP,l'.map UO=l:=by
  intro l
  induction l with
  | nil=>exact λ_=>⟨[],rfl⟩
  | cons x l ih=>
    intro h;obtain⟨l',rfl⟩:=ih λy hy=>h y (by simp[hy]);obtain⟨k,mn,mx,el,ck,ns,nl,sp,A1,n1,c1,A2,n2,c2,pr,A,n,c,e,-⟩:=aW (h x zP);exact⟨(x.1,⟨k,mn,mx,el,ck,ns,nl,sp,A1,n1,c1,A2,n2,c2,pr,A,n,c⟩)::l',by rw[List.map_cons];congr 1;exact Prod.ext rfl e.symm⟩
 obtain⟨rl',rfl⟩:=key rl h4;refine⟨rl',by rw[<-h3,List.map_map];rfl,λx hx=>h4 (UO x) (List.mem_map_of_mem hx),?_⟩;exact yF.map UO h5
end Go.Proofs.YtgmnnegfndpakaaGreatDoor
