import Derived.Test.YtgmnnegfndpakaaGreatDoorH13
import Derived.Test.YtgmnnegfndpakaaGreatDoorH08
import Derived.Test.YtgmnnegfndpakaaGreatDoorH02
import Derived.Deep.RegionLaw
set_option maxHeartbeats 20000000
set_option maxRecDepth 100000
namespace Go.Proofs.YtgmnnegfndpakaaGreatDoor
open Go.RowKit Go.Proofs.Tryz
variable{w w' wr:World}{base n i g c:Nat}{G:Nat->Prop}{s:dR}{vf vl v1 v2 v v0:Value}{A:Option Addr}{P:Program}{ops:Array Oper}{o:Oper}{a:Act}{Q:Exit->Act->World->Prop}{t:TypeId}{p:Prop}{α:Type}{f:α->α->Bool}
structure iT (w:World) (base:Nat) (G:Nat->Prop) (s:dR) (vf vl:Value):Prop where
 f:ax w base 3 1 aV s.first vf
 l:ax w base 3 1 aV s.last vl
 gf:∀k:Nat,vf.ownBlock=k->G k
 gl:∀k:Nat,vl.ownBlock=k->G k
 ne:∀k:Nat,vf.ownBlock=k->vl.ownBlock≠some k
theorem iT.keep{G':Nat->Prop}(h:iT w base G s vf vl)(hG:∀k,k<w.heap.size->G k->G' k/\w'.heap[k]?=w.heap[k]?):iT w' base G' s vf vl where
 f:=h.f.bu λk hk=>(hG k (aS h.f k hk.symm).2 (h.gf k hk)).2
 l:=h.l.bu λk hk=>(hG k (aS h.l k hk.symm).2 (h.gl k hk)).2
 gf k hk:=(hG k (aS h.f k hk.symm).2 (h.gf k hk)).1
 gl k hk:=(hG k (aS h.l k hk.symm).2 (h.gl k hk)).1
 ne:=h.ne
theorem aY.nat{F:Nat->Prop}{l:List Nat}(h:aY w F 1 aV l A n)(hi:i<n)(c:Nat):
 ∃b off x,Hid (l[i]?=some x)/\w.cell? ⟨b,off+i,none⟩=some (.int .i64 x)/\∀W,(Instr.indexAt 58 (A,n,c) i).run prog W= .ok (.pointer (some ⟨b,off+i,none⟩)) W:=by
 obtain⟨b,off,hA,_,hc⟩:=h.2 (by rw[<-h.1];omega);have hx:l[i]?=l[i]'(by rw[<-h.1];exact hi):=z6 _;have h1:=hc i _ hx 0 _ rfl;rw[Nat.mul_one,Qf] at h1;refine⟨b,off,_,zH hx,h1,λW=>?_⟩;have e:=dN (P:=prog) 58 3 1 underlying58 (λw=>by kernel_rfl) hA n c i hi W;rw[Nat.mul_one] at e;exact e
theorem EF(w:World)(base:Nat)(l l2:List Nat)(A0:Option Addr)(n0 c0:Nat)(dV:ax w base 3 1 aV l (A0,n0,c0))(A:Option Addr)(m c:Nat)(F:Nat->Prop)(hr:aY w F 1 aV l2 A m)(hlen:l.length+l2.length<4000000)(eY:base<=w)(ty:TypeId):
 ∃fA fn fc w',(Builtin.append_ #[58,58] ty #[(A0,n0,c0),(A,m,c)]).run prog w= .ok (.slice fA fn fc) w'/\ax w' base 3 1 aV (l++l2) (.slice fA fn fc)/\w.grownBy w' (Value.slice A0 n0 c0).ownBlock/\
  ((Value.slice fA fn fc).ownBlock=(Value.slice A0 n0 c0).ownBlock\/(Value.slice fA fn fc).ownBlock=w.heap.size):=by
 obtain⟨ht,i,hi,hz,bY,nP,ry,h0,xZ⟩:=tyI;have hs:=hr.src jd zD m (zR _);have lW:l2.take m=l2:=(by rw[hr.1];exact List.take_length);rw[lW] at hs;obtain⟨v',w',bG,r1,r2,r3⟩:=TD (P:=prog) w base 58 ty 3 i _ 1 8 ht hi hz bY nP ry h0 _ _ _ dV A m c _ hs (afF l2) (by rw[hr.1];exact hlen) xZ eY;have ho:ax w' base 3 1 aV (l++l2) v':=(by unfold ax;rw[z5,l6,<-hr.1];exact r1);obtain⟨fA,fc,rfl⟩:=ho.form;exact⟨fA,_,fc,w',bG,ho,r2,r3⟩
theorem ajz(w:World)(o1 o2 o3:Obj):∃w3,((w.alloc o1).alloc o2).alloc o3=w3/\w3.heap[w.heap.size]?=some o1/\w3.heap[w.heap.size+1]?=some o2/\w3.heap[w.heap.size+1+1]?=some o3/\w3.heap.size=w.heap.size+3/\Bw w w3:=by
 obtain⟨w3,h1,h2,h3,h4,h5,h6⟩:=rD w o1 o2 o3;exact⟨w3,h1,h2,h3,h4,by rw[<-h1];simp,h6⟩
theorem wM{K:Act->World->Prop}{E:Prop}
 (hg:o.guard=none) (s x:Operand) (t:TypeId) (uQ:o.op=Op.call { callee:=Callee.builtin Builtin.append,args:=#[s,x],argTypes:=#[t,t] })
   (hs:a.eval s=v1) (hx:a.eval x=v2) (bG:(Builtin.append_ #[t,t] o.type #[v1,v2]).run P w= .ok v w') (hK:K (a.put o.dst v) w'):
 if Region.wanted o (yielded ops a.tmps)=true then Oper.wp P o a w K Q else E:=by
 have hw:Region.wanted o (yielded ops a.tmps)=true:=(by simp[Region.wanted,hg]);rw[j6 hw];unfold Oper.wp;simp[execOp,uQ,resolve,invoke,builtin,hs,hx,bG,Result.andThen];exact hK
theorem nN(W0:World)(l:List Nat)(A:Option Addr)(n c:Nat)(w:World)(F:Nat->Prop)(hW:Bw W0 w)(h:aY w F 1 aV l A n)(hn:n<4000000):
 Cl 210 #[(A,n,c)] w λe w'=>∃A' n' c',e= .returned (.slice A' n' c')/\ax w' w 3 1 aV l (.slice A' n' c')/\Bw w w'/\Bw W0 w':=by
 refine (clone_any l A n c w F h hn).mono ?_;rintro e w' ⟨v',rfl,ho,hb⟩;obtain⟨A',c',rfl⟩:=ho.form;exact⟨A',_,c',rfl,ho,hb,hW.trans (hb.mono hW.size)⟩
theorem Io{w3 w4 w4' w5 wc:World}{l1 l2:List Nat}(hb:base<=wr)(h3:wr.heap.size<=w3)(h34:w3.heap.size<=w4)(o1:ax w4 w3 3 1 aV l1 v1)(h4:Bw w4 w4')(o2:ax w5 w4' 3 1 aV l2 v2)(h5:Below w4' w4' w5)
 (hk:∀k,k<w5.heap.size->k≠g->wc.heap[k]?=w5.heap[k]?) (lV:g<w3\/(w4<=g/\g<w4')\/w5<=g):
 ax wc base 3 1 aV l1 v1/\ax wc base 3 1 aV l2 v2/\(∀k,v1.ownBlock=some k->wr.heap.size<=k/\k≠g)/\(∀k,v2.ownBlock=some k->wr.heap.size<=k/\k≠g)/\(∀k,v1.ownBlock=some k->v2.ownBlock≠some k):=by
 obtain⟨b1,b2,s4,s5⟩:=zK4 (aS o1) (aS o2) h4.size h5.size
 have n1:∀k,v1.ownBlock=some k->w3.heap.size<=k/\k<w4.heap.size/\k≠g:=λk hk=>by
  have:=b1 k hk.symm;refine⟨this.1,this.2,?_⟩
  rcases lV with e | ⟨e,_⟩ | e<;>omega
 have n2:∀k,v2.ownBlock=some k->w4'.heap.size<=k/\k<w5.heap.size/\k≠g:=λk hk=>by
  have:=b2 k hk.symm;refine⟨this.1,this.2,?_⟩
  rcases lV with e | ⟨_,e⟩ | e<;>omega
 refine⟨(o1.bu λk eu=>?_).low zO,(o2.bu λk dm=>?_).low zO,λk eu=>⟨by have:=n1 k eu;omega,(n1 k eu).2.2⟩,λk dm=>⟨by have:=n2 k dm;omega,(n2 k dm).2.2⟩,λk eu dm=>by have:=n1 k eu;have:=n2 k dm;omega⟩
 ·have:=n1 k eu;rw[hk k zO this.2.2,h5.block k zO,h4.block k this.2.1]
 have:=n2 k dm;exact hk k this.2.1 this.2.2
theorem yT{u0 u1 u2:Value}(h:w.heap[g]?=Zc #[u0,u1,u2] t):(((w.setCell g v0).setCell (g,1) v1).setCell (g,2) v2).heap[g]?=Zc #[v0,v1,v2] t:=by
 rw[dM (dM (dM h))];rfl
theorem kG{k:Nat}(h:k≠g):(((w.setCell g v0).setCell (g,1) v1).setCell (g,2) v2).heap[k]?=w.heap[k]?:=by
 rw[b7 _ _ _ _ h,b7 _ _ _ _ h,b7 _ _ _ _ h]
def acf(wr wc:World)(base g:Nat)(l1 l2:List Nat)(v1 v2:Value):Prop:=
 ax wc base 3 1 aV l1 v1/\ax wc base 3 1 aV l2 v2/\(∀k,v1.ownBlock=some k->wr.heap.size<=k/\k≠g)/\(∀k,v2.ownBlock=some k->wr.heap.size<=k/\k≠g)/\(∀k,v1.ownBlock=some k->v2.ownBlock≠some k)
theorem Uw(x y:dR):(fG x y).first=x.first++(if x.empty=true then y.first else []):=rfl
theorem WV(x y:dR):(fG x y).last=y.last++(if y.empty=true then x.last else []):=rfl
theorem wO{rest:List Oper}(uO:o.guard=none)(s x:Operand)(t:TypeId)
 (ho:o.op= .call { callee:=.builtin .append,args:=#[s,x],argTypes:=#[t,t] })   (hs:a.eval s=v1) (hx:a.eval x=v2) (bG:(Builtin.append_ #[t,t] o.type #[v1,v2]).run P w= .ok v w')
 (h:wpList P ops Q rest (a.put o.dst v) w'):wpList P ops Q (o::rest) a w:=
 wpList_plain uO λK hK=>by
  unfold Oper.wp execOp;simp only[ho,resolve,invoke,builtin,Sem.run_bind,Sem.run_pure,Result.andThen_ok,List.map_toArray,Jm,List.map_nil,hs,hx,bG];exact hK _ _ h
theorem axN{T T':Nat->Prop}{w0:World}(h:Kept T w0 w)(h':Kept T' w.drew w')(hT:∀j,T' j->T j\/w0.heap.size<=j):Kept T w0 w':=
 ⟨h'.os.trans h.os,h'.tape.trans h.tape,h'.output.trans h.output,zT h.size h'.size,λk hk hn=>(h'.block k (d4 hk h.size) (λe=>by rcases hT k e with e | e;exact hn e;omega)).trans (h.block k hk hn)⟩
theorem dJ{fr:Nat×Nat}(h:w.heap[g]?=some (.cells #[v0,v1,v2] t fr)):
 w.cell? g=v0/\w.cell? (g,1)=v1/\w.cell? (g,2)=v2:=by
 refine⟨?_,?_,?_⟩<;>rw[Ys w g _ _ _ _ h]<;>rfl
theorem iT.acg(h:iT w base G s (A,n,c) vl)(hk:∀j,j<w.heap.size->G j->wr.heap[j]?=w.heap[j]?):aY wr (λj=>G j/\j<w.heap.size) 1 aV s.first A n:=by
 obtain⟨A',c',e,hr,_,_⟩:=h.f.rowAt jd zD (λj=>G j/\j<w.heap.size) (λj hj=>⟨h.gf j hj,(aS h.f j hj.symm).2⟩);simp only[i6] at e;obtain⟨rfl,rfl,-⟩:=e;exact hr.keep λj hj=>⟨hj,hk j hj.2 hj.1⟩
theorem iT.ahn(h:iT w base G s vf (A,n,c))(hk:∀j,j<w.heap.size->G j->wr.heap[j]?=w.heap[j]?):aY wr (λj=>G j/\j<w.heap.size) 1 aV s.last A n:=by
 obtain⟨A',c',e,hr,_,_⟩:=h.l.rowAt jd zD (λj=>G j/\j<w.heap.size) (λj hj=>⟨h.gl j hj,(aS h.l j hj.symm).2⟩);simp only[i6] at e;obtain⟨rfl,rfl,-⟩:=e;exact hr.keep λj hj=>⟨hj,hk j hj.2 hj.1⟩
theorem Ux(f:List Nat):∀(l:List Nat) (pl:List aU) (m:Nat),(∀(i:Nat) (q:aU),pl[i]?=q->q.follow.length<=m)->∀(i:Nat) (q:aU),(l.foldl (λpl i=>tZ pl f i) pl)[i]?=q->q.follow.length<=m+l.length*f.length
 | [],pl,m,h,i,q,hq=>by have:=h i q hq;omega
 | x::l,pl,m,h,i,q,hq=>by
   rw[JN] at hq
   have:=Ux f l (tZ pl f x) (m+f.length) (λi q hq=>by
    rw[Bo] at hq
    split at hq
    ·cases hp:pl[i]? with
     | none=>rw[hp] at hq;cases hq
     | some q0=>
       rw[hp] at hq;obtain rfl:=zI hq;have:=h i q0 hp;simp only[z5];omega
    have:=h i q hq;omega) i q hq
   rw[z9,Nat.succ_mul];omega
theorem asf{o:Nat}{r:lK}(h:cu w g o (sH r)):w.cell? (g,o+13)=r.fv:=by
 refine h 13 _ ?_;unfold sH;rw[z21 (by rw[r.lc.2.1];decide),r.lc.2.1];rfl
theorem aae(h:p:=by (first | exact(j9 _ wr).drewN 1 | exact bJ.drewN 1 | exact ay | exact TP | exact ay.seq bP | exact TP.seq dY | exact(((ay.seq bP).setCell (ay.size) _).setCell (ay.size) _).setCell (ay.size) _ | exact(((ay).setCell (TP.size) _).setCell (TP.size) _).setCell (TP.size) _ | exact(((ay).setCell (zR _) _).setCell (zR _) _).setCell (zR _) _)):p:=h
theorem aad(h:p:=by (refine uT _ ?_;(first | exact(j9 _ wr).drewN 1 | exact bJ.drewN 1 | exact ay | exact TP | exact ay.seq bP | exact TP.seq dY | exact(((ay.seq bP).setCell (ay.size) _).setCell (ay.size) _).setCell (ay.size) _ | exact(((ay).setCell (TP.size) _).setCell (TP.size) _).setCell (TP.size) _ | exact(((ay).setCell (zR _) _).setCell (zR _) _).setCell (zR _) _))):p:=h
theorem BO(base bm:Nat)(T:Nat->Prop)(hd:Hd)(pl:List aU)(rs:List lK)(x y:dR)(xf xl yf yl pv:Value)(w:World)(Gx Gy:Nat->Prop)(h:gV w base T bm hd pl pv rs)(hx:iT w base Gx x xf xl)(hy:iT w base Gy y yf yl)
 (hGx:∀k,Gx k->¬T k) (hGy:∀k,Gy k->¬T k) (FD:∀i∈x.last,i<pl.length) (hb:x.first.length<=1000/\x.last.length<=1000/\y.first.length<=1000/\y.last.length<=1000) (hf:∀(i:Nat) (q:aU),pl[i]?=q->q.follow.length<=300000):
 Cl 166 #[(bm,0),.agg #[xf,xl,x.empty],.agg #[yf,yl,y.empty]] w λe w'=>∃T' rs' vf vl,e= .returned (.agg #[vf,vl,(x.empty&&y.empty:Bool)])/\gV w' base T' bm hd (dB pl x y) pv rs'/\
  (∀k,T k->T' k)/\(∀k,T' k->T k\/w.heap.size<=k)/\Kept T w w'/\iT w' base (λk=>w.heap.size<=k/\¬T' k) (fG x y) vf vl:=by
 obtain⟨Uy,WW,rfl⟩:=hx.f.form;obtain⟨WX,ZN,rfl⟩:=hx.l.form;obtain⟨GU,JO,rfl⟩:=hy.f.form;obtain⟨JP,L9,rfl⟩:=hy.l.form;obtain⟨xe,hxe⟩:=zF x.empty;obtain⟨ye,hye⟩:=zF y.empty;rw[hxe,hye];obtain⟨n1,yB⟩:=zF x.first.length;obtain⟨n2,qY⟩:=zF x.last.length;obtain⟨n3,FH⟩:=zF y.first.length;obtain⟨n4,hn4⟩:=zF y.last.length;rw[yB,qY] at hx;rw[FH,hn4] at hy;rw[yB,qY,FH,hn4] at hb ⊢;obtain⟨ZO,ZP,ZQ,rfl⟩:∃A n c,pv= .slice A n c:=(by obtain⟨A,c,e⟩:=h.own.form;exact⟨A,_,c,e⟩);obtain⟨HM,HX,HY,HXE,HYE,IZ,um,HN3⟩:=zJ8 h hx hy hxe hye yB qY FH;obtain⟨HN4,HGX,HGY,O8,HF⟩:=zJ5 hn4 hGx hGy FD hf;obtain⟨w3,vU,S1,S2,S3,su,az⟩:=ajz w (Zc #[(Uy,n1,WW),(WX,n2,ZN),xe] 171) (Zc #[(GU,n3,JO),(JP,n4,L9),ye] 171) (Zc #[(),(),false] 171);obtain⟨aQ,gY,vC,p0⟩:=zK4 (zH S1) (zH S2) (zH S3) (dJ S1);have O9:gV w3 base T bm hd pl (ZO,ZP,ZQ) rs:=h.below az;have I4:=zH O9;clear h hx hy hxe hye yB qY FH hn4 hGx hGy FD hf S1 S2 S3 O9;go_enter func166,ntmps166;go_wp2_with fail;clear p0
 go_loopw [13] (λsi wr=>∃k:Nat,k<=n2/\si= k/\∃(T':Nat->Prop) (rs':List lK),gV wr base T' bm hd ((x.last.take k).foldl (λpl i=>tZ pl y.first i) pl) (ZO,ZP,ZQ) rs'/\(∀j,T j->T' j)/\(∀j,T' j->T j\/w3.heap.size<=j)/\Kept T w3 wr)
  (λsi _=>n2 - (intOf si).toNat)
 case atStart=>exact⟨0,zO,rfl,T,rs,I4,λ_ h=>h,λ_ h=>.inl h,Kept.refl _ _⟩
 obtain⟨k,hk,rfl,T',rs',hM,vN,fB,lH⟩:=hrel;by_cases aN:k<n2
 ·have gJ:=zT1 (k<n2);have Vr:∀j,T j->j<w.heap.size:=λj hj=>(HM.inT j hj).2
  have aI:aY wr (λ_=>True) 1 aV x.last WX n2:=by
   obtain⟨A,c,e,hr,_,_⟩:=HX.l.rowAt jd zD (λj=>Gx j/\j<w.heap.size) (λj hj=>⟨HX.gl j hj,(aS HX.l j hj.symm).2⟩);simp only[i6] at e;obtain⟨rfl,-,-⟩:=e;rw[um.out] at hr;exact hr.keep λj hj=>⟨trivial,by rw[lH.block j zO (HGX j hj.1),az.block j hj.2]⟩
  obtain⟨b,off,i,HI,z0,dO⟩:=aI.nat aN ZN;have jU:i<pl.length:=O8 i (SK HI);obtain⟨plk,ach⟩:=zF ((x.last.take k).foldl (λpl i=>tZ pl y.first i) pl);rw[ach] at hM;obtain⟨q,hq⟩:∃q,plk[i]?=some q:=⟨_,z6 (by rw[<-ach,Vk];exact jU)⟩
  have uw:q.follow.length<=1300000:=by
   have:=Ux y.first (x.last.take k) pl 300000 HF i q (by rw[ach];exact hq);have h1:(x.last.take k).length*y.first.length<=1000*1000:=Nat.mul_le_mul (by rw[Ju,um.out];omega) (by rw[HN3.out];omega);omega
  have I5:gV wr.drew base T' bm hd plk (ZO,ZP,ZQ) rs':=hM.keep (zR _) λ_ _=>rfl;obtain⟨g,cap,r,cur,epv,hr,lV,qo,hg3,CY,Pg,hg6,hg7,hg8,aaF,Vd⟩:=I5.place hq;obtain⟨a1,a2,a3,a4⟩:=I5.row i q r hq hr
  have apy:aY wr.drew (λj=>Gy j/\j<w) 1 aV y.first GU n3:=HY.acg λj hj hG=>by
   show wr.heap[j]?=_;rw[lH.block j zO (HGY j hG),az.block j hj]
  obtain⟨fA,fn,fc,w',bG,ho,fO,hob⟩:=EF wr.drew base q.follow y.first r.fA r.fn r.fc a3 GU n3 JO _ apy (by rw[HN3.out];omega) I5.le 58;obtain⟨m0,m1,m2,m3,m4,m5⟩:=gG (show wr.drew.heap[bm]?=Zc #[hd.e,(ZO,ZP,ZQ),hd.f,hd.mp,hd.em,hd.al] 169 from I5.blk);have aBa:r.fv.ownBlock≠some bm:=λe=>(a4 bm e).2.1 rfl;have ZR:r.fv.ownBlock≠some g:=λe=>(a4 g e).2.2 (by rw[epv];rfl);have aso:w'.heap[bm]?=Zc #[hd.e,(ZO,ZP,ZQ),hd.f,hd.mp,hd.em,hd.al] 169:=(fO.block bm (I5.inT bm I5.IP).2 (λe=>aBa e.symm)).trans I5.blk;obtain⟨m0',ZT,m2',m3',m4',m5'⟩:=gG aso;have hgw:w'.heap[g]?=Zc cur 195:=(fO.block g (aC lV) (λe=>ZR e.symm)).trans lV;have hfz:w'.frozen? (g,i*14+13)=false:=k8 w' g _ _ _ hgw;have hfc:wr.drew.cell? (g,i*14+13)=(r.fA,r.fn,r.fc):=asf aaF;have hfw:w'.cell? (g,i*14+13)=(r.fA,r.fn,r.fc):=(ZS (w:=wr.drew) (a:=(g,i*14+13)) (fO.block g (aC lV) (λe=>ZR e.symm))).trans hfc;have jW:wr.drew.heap[w.heap.size+1]?=Zc #[(GU,n3,JO),(JP,n4,L9),ye] 171:=(lH.block _ zO (λe=>by have:=Vr _ e;omega)).trans gY;obtain⟨y0,y1,y2⟩:=dJ jW
  have asr:r.fv.ownBlock≠some (w.heap.size+1):=λe=>by
   rcases fB _ (a4 _ e).1 with h | h
   ·have:=Vr _ h;omega
   omega
  have hyw:w'.heap[w.heap.size+1]?=Zc #[(GU,n3,JO),(JP,n4,L9),ye] 171:=(fO.block _ (aC jW) (λe=>asr e.symm)).trans jW;have aBb:wr.drew.frozen? (g,i*14+13)=false:=k8 wr.drew g _ _ _ lV;have abo:wr.drew.cell? (bm,1)=(ZO,ZP,ZQ)/\wr.drew.cell? (g,i*14+13)=(r.fA,r.fn,r.fc)/\wr.drew.cell? (w.heap.size+1,0)=(GU,n3,JO)/\wr.drew.frozen? (g,i*14+13)=false:=⟨m1,hfc,y0,aBb⟩;have ajG:w'.cell? (bm,1)=(ZO,ZP,ZQ)/\w'.cell? (g,i*14+13)=(r.fA,r.fn,r.fc)/\w'.cell? (w.heap.size+1,0)=(GU,n3,JO)/\w'.frozen? (g,i*14+13)=false:=⟨ZT,hfw,(dJ hyw).1,hfz⟩;obtain⟨HMD,qB,HQ,qG,aBc,HO,JQ,WY⟩:=zJ8 I5 bG hq hr epv ho fO hob;obtain⟨rM,gW,fC,aBd⟩:=zJ4 lH vN fB ach;clear hyw asr bG hM I5 hq hr lV qo aaF a1 a2 a3 a4 aI apy aso hgw jW ho fO hob lH vN fB ach epv;go_wp2_with fail;refine ah.start (λW=>W.cell? (bm,1)=(ZO,ZP,ZQ)/\W.cell? (g,i*14+13)=(r.fA,r.fn,r.fc)/\W.cell? (w.heap.size+1,0)=(GU,n3,JO)/\W.frozen? (g,i*14+13)=false) 18 zK ?_;have hHeld:=abo;refine ah.tk 0 hHeld ?_;refine ah.tk 1 hHeld ?_;refine ah.tk 2 hHeld ?_;refine ah.tk 3 hHeld ?_;refine ah.tk 4 hHeld ?_;refine ah.tk 5 hHeld ?_;refine ah.tk 6 hHeld ?_;refine ah.tk 7 hHeld ?_;refine ah.tk 8 hHeld ?_;refine ah.tk 9 hHeld ?_;refine ah.tk 10 hHeld ?_;refine ah.tk 11 hHeld ?_;refine ah.tk 12 hHeld ?_;refine ah.tk 13 hHeld ?_;refine ah.tk 14 hHeld ?_;refine ah.on 15 λK hK=>?_;refine wM rfl (.tmp 29) (.tmp 31) 58 rfl (v1:=(r.fA,r.fn,r.fc)) (v2:=(GU,n3,JO)) rfl rfl qB ?_;refine hK _ _ (λ_=>ajG) ?_;clear hK K hHeld;(try simp only[Act.put,dG,dH,dI]);have hHeld:=ajG;refine ah.ta 16 hHeld ?_;refine ah.ta 17 hHeld ?_;refine ah.oe 18 ?_;refine ah.dn ?_
  all_goals
   go_wp2_with fail;go_roundw
   case rel=>
    obtain⟨hM',fM⟩:=HMD.grow HQ qG aBc HO JQ WY;refine⟨k+1,zO,by go_num,(λj=>T' j\/(Value.slice fA fn fc).ownBlock=some j),(rs'.set i { r with fA:=fA,fn:=fn,fc:=fc }),?_,λj h=>.inl (gW j h),λj h=>?_,axN rM fM fC⟩
    ·obtain⟨e1,e2⟩:=z4.1 HI;rw[List.take_succ_eq_append_getElem e1,e2,List.foldl_append,aBd.out];exact hM'
    rcases h with h | h
    ·exact fC j h
    rcases WY.out with e | e
    ·exact fC j (((HMD.row i q r HQ qG).2.2.2 j (e.symm.trans h)).1)
    have e':some wr.heap.size=j:=e.symm.trans h;have:=zI e';have:=rM.size;right;omega
   simp[intOf];omega
 obtain rfl:k=n2:=zO;have gJ:=zT2 (k<k)
 have hJ:(x.last.take k).foldl (λpl i=>tZ pl y.first i) pl=dB pl x y:=by
  rw[show k=x.last.length from um.symm,List.take_length];rfl
 rw[hJ] at hM;obtain⟨uy,rM,gW,fC⟩:=zJ4 hM lH vN fB;have Vr:∀j,T j->j<w.heap.size:=λj hj=>(HM.inT j hj).2;have JR:=zH Vr;have FI:wr.heap[w.heap.size]?=Zc #[(Uy,n1,WW),(WX,k,ZN),xe] 171:=(lH.block _ zO (λe=>by have:=Vr _ e;omega)).trans aQ;have jW:wr.heap[w.heap.size+1]?=Zc #[(GU,n3,JO),(JP,n4,L9),ye] 171:=(lH.block _ zO (λe=>by have:=Vr _ e;omega)).trans gY;obtain⟨HX2,Uz,hwr⟩:=zK3 (zH FI) (zH jW) lH.size;clear hM lH vN fB hJ Vr;obtain⟨x0,x1,x2⟩:=dJ FI;obtain⟨y0,y1,y2⟩:=dJ jW;clear FI jW
 have Ph:Hid (∀W,Bw wr W->aY W (λj=>Gx j/\j<w.heap.size) 1 aV x.first Uy n1):=zH λW hW=>HX.acg λj hj hG=>by
  rw[hW.block j zO,rM.block j zO (HGX j hG),az.block j hj]
 have HRY:Hid (∀W,Bw wr W->aY W (λj=>Gy j/\j<w) 1 aV y.last JP n4):=zH λW hW=>HY.ahn λj hj hG=>by
  rw[hW.block j zO,rM.block j zO (HGY j hG),az.block j hj]
 have uT:Hid (∀W,Bw wr W->(Bw wr W/\W.cell? w=(Uy,n1,WW)/\W.cell? (w,1)=(WX,k,ZN)/\W.cell? (w,2)=xe/\W.cell? (w.heap.size+1,0)=(GU,n3,JO)/\W.cell? (w.heap.size+1,1)=(JP,n4,L9)/\W.cell? (w.heap.size+1,2)=ye)):=zH λW hW=>by
  obtain⟨x0,x1,x2⟩:=dJ (ae HX2 hW);obtain⟨y0,y1,y2⟩:=dJ (ae Uz hW);exact⟨hW,x0,x1,x2,y0,y1,y2⟩
 go_upto_region 6 with fail
 go_cut [9] (λs9 wc=>∃g v1 v2,s9= .pointer (some ⟨g,0,none⟩)/\wc.heap[g]?=some (.cells #[v1,v2,(xe&&ye:Bool)] 171)/\wr.heap.size<=g/\Bw wr wc/\acf wr wc base g x.first y.last v1 v2)
 case first=>
  obtain⟨wa,BK,Sa,nD,bJ⟩:=af wr (Obj.cells #[(),(),false] 171);have HSa:=zH Sa;clear Sa;refine wp_region_held_drew (S:=(λW=>Bw wr W/\W.cell? ⟨w,0,none⟩=some (.slice Uy n1 WW)/\W.cell? ⟨w,1,none⟩=some (.slice WX k ZN)/\W.cell? ⟨w,2,none⟩=some (.bool xe)/\W.cell? ⟨w.heap.size+1,0,none⟩=some (.slice GU n3 JO)/\W.cell? ⟨w.heap.size+1,1,none⟩=some (.slice JP n4 L9)/\W.cell? ⟨w.heap.size+1,2,none⟩=some (.bool ye))) zK (uT _ ((j9 _ wr).drewN 1)) (λhHeld=>?_);refine aac 0 ?_;refine aac 1 ?_;refine aac 3 ?_;refine aac 4 ?_;refine aac 6 ?_;refine aac 7 ?_;refine wpAnyH_ready (rs:=[2,13]) zK zP ?_;refine AllReadyH.cons (aB rfl) (λK hK=>?_) ?_
  ·go_simp;refine (nN wr x.first Uy n1 WW _ _ ?_ (Ph _ ?_) zO).mono ?_
   ·exact aae
   ·exact aae
   rintro e w4 ⟨A1,m1,c1,rfl,uz,aX,TP⟩
   have DY:=zH uz;clear uz;obtain⟨wb,hwb,Sb,Zo,dY⟩:=af w4 (Obj.cells #[(),(),false] 171);have QT:=zH Sb;clear Sb;try (have NQ:=zH (ae HSa aX.xY))
   go_wp2_with fail;refine hK _ _ ?_ (λhHeld=>?_)
   ·exact aad
   clear hK K;(try simp only[Act.put,dG,dH,dI]);refine wpAnyH_ready (rs:=[5,13]) zK zP ?_;refine AllReadyH.cons (aB rfl) (λK hK=>?_) ?_
   ·go_simp;refine (nN wr y.last JP n4 L9 _ _ ?_ (HRY _ ?_) zO).mono ?_
    ·exact aae
    ·exact aae
    rintro e w5 ⟨A2,m2,c2,rfl,rO,bg,ay⟩
    have DZ:=zH rO;clear rO;obtain⟨wd,WZ,Sd,hsd,bP⟩:=af w5 (Obj.cells #[(),(),false] 171);have HSd:=zH Sd;first | (have SG:=ae QT bg;have s0:=dJ SG;have t0:=k8 w5 _ 0 _ _ SG;have t1:=k8 w5 _ 1 _ _ SG;have t2:=k8 w5 _ 2 _ _ SG;have yU:=zH SG;clear SG) | (have SG:=ae NQ bg;have s0:=dJ SG;have t0:=k8 w5 _ 0 _ _ SG;have t1:=k8 w5 _ 1 _ _ SG;have t2:=k8 w5 _ 2 _ _ SG;have yU:=zH SG;clear SG) | (have SG:=Sd;have s0:=dJ SG;have t0:=k8 wd _ 0 _ _ SG;have t1:=k8 wd _ 1 _ _ SG;have t2:=k8 wd _ 2 _ _ SG;have yU:=zH SG;clear SG);clear Sd
    go_wp2_with fail;refine hK _ _ ?_ (λhHeld=>?_)
    ·exact aad
    clear hK K;(try simp only[Act.put,dG,dH,dI]);refine aac 8 ?_;cases xe
    case' false=>
     refine wpAnyH_take (i:=9) (v:=undef) (aB rfl) zK zK zK (λ_ _ _ h=>h) (Or.inr ⟨zL,rfl⟩) (by assumption) ?_;(try simp only[Act.put,dG,dH,dI]);refine wpAnyH_take (i:=10) (v:=undef) (aB rfl) zK zK zK (λ_ _ _ h=>h) (Or.inr ⟨zL,rfl⟩) (by assumption) ?_;(try simp only[Act.put,dG,dH,dI])
    case' true=>
     refine aac 9 ?_;refine aac 10 ?_
    all_goals
     refine aac 11 ?_;refine aac 12 ?_;refine wpAnyH_ready (rs:=[13]) zK zP ?_;refine AllReadyH.cons (aB rfl) (λK hK=>?_) ?_
     ·go_simp;refine hK _ _ ?_ (λhHeld=>?_)
      ·exact aad
      clear hK K;(try simp only[Act.put,dG,dH,dI]);refine wpAnyH_ready (rs:=[14]) zK zP ?_;refine AllReadyH.cons (aB rfl) (λK hK=>?_) ?_
      ·go_simp;refine hK _ _ ?_ (λhHeld=>?_)
       ·exact aad
       clear hK K;(try simp only[Act.put,dG,dH,dI]);refine wpAnyH_done zK ?_ _;go_wp2_with fail;go_meet;have aH:base<=wr:=uy.le;have s4:=TP.size;refine⟨w5,(A1,m1,c1),(A2,m2,c2),by with_reducible rfl,?_⟩;exact⟨yT yU,ay.size,(((ay.seq bP).setCell (ay.size) _).setCell (ay.size) _).setCell (ay.size) _,Io (wr:=wr) (w3:=wr.drew) (w4:=w4) (w4':=w4) (w5:=w5) aH (zR _) s4 DY (j9 _ _) DZ bg (λk h1 h2=>(kG h2).trans (bP.block k h1)) (.inr (.inr (zR _)))⟩
      exact AllReadyH.nil
     exact AllReadyH.nil
   refine AllReadyH.cons (aB rfl) (λK hK=>?_) ?_
   ·go_simp;refine hK _ _ ?_ (λhHeld=>?_)
    ·exact aad
    clear hK K;(try simp only[Act.put,dG,dH,dI]);refine wpAnyH_ready (rs:=[5]) zK zP ?_;refine AllReadyH.cons (aB rfl) (λK hK=>?_) ?_
    ·go_simp;refine (nN wr y.last JP n4 L9 _ _ ?_ (HRY _ ?_) zO).mono ?_
     ·exact aae
     ·exact aae
     rintro e w5 ⟨A2,m2,c2,rfl,rO,bg,ay⟩
     have DZ:=zH rO;clear rO;obtain⟨wd,WZ,Sd,hsd,bP⟩:=af w5 (Obj.cells #[(),(),false] 171);have HSd:=zH Sd;first | (have SG:=ae QT bg;have s0:=dJ SG;have t0:=k8 w5 _ 0 _ _ SG;have t1:=k8 w5 _ 1 _ _ SG;have t2:=k8 w5 _ 2 _ _ SG;have yU:=zH SG;clear SG) | (have SG:=ae NQ bg;have s0:=dJ SG;have t0:=k8 w5 _ 0 _ _ SG;have t1:=k8 w5 _ 1 _ _ SG;have t2:=k8 w5 _ 2 _ _ SG;have yU:=zH SG;clear SG) | (have SG:=Sd;have s0:=dJ SG;have t0:=k8 wd _ 0 _ _ SG;have t1:=k8 wd _ 1 _ _ SG;have t2:=k8 wd _ 2 _ _ SG;have yU:=zH SG;clear SG);clear Sd
     go_wp2_with fail;refine hK _ _ ?_ (λhHeld=>?_)
     ·exact aad
     clear hK K;(try simp only[Act.put,dG,dH,dI]);refine aac 8 ?_;cases xe
     case' false=>
      refine wpAnyH_take (i:=9) (v:=undef) (aB rfl) zK zK zK (λ_ _ _ h=>h) (Or.inr ⟨zL,rfl⟩) (by assumption) ?_;(try simp only[Act.put,dG,dH,dI]);refine wpAnyH_take (i:=10) (v:=undef) (aB rfl) zK zK zK (λ_ _ _ h=>h) (Or.inr ⟨zL,rfl⟩) (by assumption) ?_;(try simp only[Act.put,dG,dH,dI])
     case' true=>
      refine aac 9 ?_;refine aac 10 ?_
     all_goals
      refine aac 11 ?_;refine aac 12 ?_;refine wpAnyH_ready (rs:=[14]) zK zP ?_;refine AllReadyH.cons (aB rfl) (λK hK=>?_) ?_
      ·go_simp;refine hK _ _ ?_ (λhHeld=>?_)
       ·exact aad
       clear hK K;(try simp only[Act.put,dG,dH,dI]);refine wpAnyH_done zK ?_ _;go_wp2_with fail;go_meet;have aH:base<=wr:=uy.le;have s4:=TP.size;refine⟨w4,(A1,m1,c1),(A2,m2,c2),by with_reducible rfl,?_⟩;exact⟨yT yU,s4,(((ay).setCell (TP.size) _).setCell (TP.size) _).setCell (TP.size) _,Io (wr:=wr) (w3:=wr.drew) (w4:=w4) (w4':=wb) (w5:=w5) aH (zR _) s4 DY dY DZ bg (λk h1 h2=>kG h2) (.inr (.inl ⟨zR _,Zo⟩))⟩
      exact AllReadyH.nil
    exact AllReadyH.nil
   exact AllReadyH.nil
  refine AllReadyH.cons (aB rfl) (λK hK=>?_) ?_
  ·go_simp;refine hK _ _ ?_ (λhHeld=>?_)
   ·exact aad
   clear hK K;(try simp only[Act.put,dG,dH,dI]);refine wpAnyH_ready (rs:=[2]) zK zP ?_;refine AllReadyH.cons (aB rfl) (λK hK=>?_) ?_
   ·go_simp;refine (nN wr x.first Uy n1 WW _ _ ?_ (Ph _ ?_) zO).mono ?_
    ·exact aae
    ·exact aae
    rintro e w4 ⟨A1,m1,c1,rfl,uz,aX,TP⟩
    have DY:=zH uz;clear uz;obtain⟨wb,hwb,Sb,Zo,dY⟩:=af w4 (Obj.cells #[(),(),false] 171);have QT:=zH Sb;clear Sb;try (have NQ:=zH (ae HSa aX.xY))
    go_wp2_with fail;refine hK _ _ ?_ (λhHeld=>?_)
    ·exact aad
    clear hK K;(try simp only[Act.put,dG,dH,dI]);refine wpAnyH_ready (rs:=[5]) zK zP ?_;refine AllReadyH.cons (aB rfl) (λK hK=>?_) ?_
    ·go_simp;refine (nN wr y.last JP n4 L9 _ _ ?_ (HRY _ ?_) zO).mono ?_
     ·exact aae
     ·exact aae
     rintro e w5 ⟨A2,m2,c2,rfl,rO,bg,ay⟩
     have DZ:=zH rO;clear rO;obtain⟨wd,WZ,Sd,hsd,bP⟩:=af w5 (Obj.cells #[(),(),false] 171);have HSd:=zH Sd;first | (have SG:=ae QT bg;have s0:=dJ SG;have t0:=k8 w5 _ 0 _ _ SG;have t1:=k8 w5 _ 1 _ _ SG;have t2:=k8 w5 _ 2 _ _ SG;have yU:=zH SG;clear SG) | (have SG:=ae NQ bg;have s0:=dJ SG;have t0:=k8 w5 _ 0 _ _ SG;have t1:=k8 w5 _ 1 _ _ SG;have t2:=k8 w5 _ 2 _ _ SG;have yU:=zH SG;clear SG) | (have SG:=Sd;have s0:=dJ SG;have t0:=k8 wd _ 0 _ _ SG;have t1:=k8 wd _ 1 _ _ SG;have t2:=k8 wd _ 2 _ _ SG;have yU:=zH SG;clear SG);clear Sd
     go_wp2_with fail;refine hK _ _ ?_ (λhHeld=>?_)
     ·exact aad
     clear hK K;(try simp only[Act.put,dG,dH,dI]);refine aac 8 ?_;cases xe
     case' false=>
      refine wpAnyH_take (i:=9) (v:=undef) (aB rfl) zK zK zK (λ_ _ _ h=>h) (Or.inr ⟨zL,rfl⟩) (by assumption) ?_;(try simp only[Act.put,dG,dH,dI]);refine wpAnyH_take (i:=10) (v:=undef) (aB rfl) zK zK zK (λ_ _ _ h=>h) (Or.inr ⟨zL,rfl⟩) (by assumption) ?_;(try simp only[Act.put,dG,dH,dI])
     case' true=>
      refine aac 9 ?_;refine aac 10 ?_
     all_goals
      refine aac 11 ?_;refine aac 12 ?_;refine wpAnyH_ready (rs:=[14]) zK zP ?_;refine AllReadyH.cons (aB rfl) (λK hK=>?_) ?_
      ·go_simp;refine hK _ _ ?_ (λhHeld=>?_)
       ·exact aad
       clear hK K;(try simp only[Act.put,dG,dH,dI]);refine wpAnyH_done zK ?_ _;go_wp2_with fail;go_meet;have aH:base<=wr:=uy.le;have s4:=TP.size;refine⟨wr,(A1,m1,c1),(A2,m2,c2),by with_reducible rfl,?_⟩;exact⟨yT yU,zR _,(((ay).setCell (zR _) _).setCell (zR _) _).setCell (zR _) _,Io (wr:=wr) (w3:=wa.drew) (w4:=w4) (w4':=w4) (w5:=w5) aH (Nat.le_of_lt nD) aX.xY.size DY (j9 _ _) DZ bg (λk h1 h2=>kG h2) (.inl nD)⟩
      exact AllReadyH.nil
    exact AllReadyH.nil
   exact AllReadyH.nil
  exact AllReadyH.nil
 obtain⟨g,v1,v2,rfl,hg,fO,CZ,dV⟩:=hcut;obtain⟨o1,o2,c1,c2,c3⟩:=dV;obtain⟨A1,k1,rfl⟩:=o1.form;obtain⟨A2,k2,rfl⟩:=o2.form;obtain⟨m1,iY⟩:=zF x.first.length;obtain⟨m2,nJ⟩:=zF y.last.length;rw[iY] at o1 c1 c3 hg;rw[nJ] at o2 c2 c3 hg;clear x0 x1 x2 y0 y1 y2;obtain⟨jy,HG,ZU,Xa,I7,DY,DZ⟩:=zJ7 CZ hg c1 c2 c3 o1 o2;obtain⟨x0,x1,x2⟩:=dJ (ae HX2 CZ);have g0:=dJ hg;have eY:=zT uy.le CZ.size;clear iY nJ hg CZ o1 o2 c1 c2 c3;go_upto_if 50 with fail
 go_cut [] (λwd=>∃A1 m1 k1,wd.heap[g]?=some (.cells #[.slice A1 m1 k1,(A2,m2,k2),(xe&&ye:Bool)] 171)/\Bw wr wd/\acf wr wd base g (fG x y).first y.last (.slice A1 m1 k1) (A2,m2,k2))
 case first=>
  cases xe
  ·go_wp2_with fail;go_meet;exact⟨A1,m1,k1,HG,jy,by rw[Uw,HXE.out];simpa using DY.out,DZ.out,ZU.out,Xa.out,I7.out⟩
  obtain⟨y0,y1,y2⟩:=dJ (ae Uz jy)
  have aI:aY wc (λj=>Gy j/\j<w) 1 aV y.first GU n3:=HY.acg λj hj hG=>by
   rw[jy.block j zO,rM.block j zO (HGY j hG),az.block j hj]
  obtain⟨fA,fn,fc,w',bG,ho,yV,hob⟩:=EF wc base x.first y.first A1 m1 k1 DY GU n3 JO _ aI (by rw[IZ.out,HN3.out];omega) eY 58;have dD:(Value.slice A1 m1 k1).ownBlock≠some g:=λe=>(ZU g e).2 rfl;have FK:w'.heap[g]?=Zc #[(A1,m1,k1),(A2,m2,k2),(true&&ye:Bool)] 171:=(yV.block g (aC HG) (λe=>dD e.symm)).trans HG;have g0':=dJ FK;have t0:=k8 w' g 0 _ _ FK;have acm:Bw wr w':=⟨yV.os.trans jy.os,yV.tape.trans jy.tape,yV.output.trans jy.output,zT jy.size yV.size,λj hj=>(yV.block j (by have:=jy.size;omega) (λe=>by have:=(ZU j e.symm).1;omega)).trans (jy.block j hj)⟩;obtain⟨qB,JQ,WY,HO,HG',nG⟩:=zJ6 bG yV hob ho FK acm;clear bG yV hob ho FK acm aI
  go_wp2_with (at_builtin;refine wO rfl (.tmp 52) (.tmp 54) 58 rfl (v1:=(A1,m1,k1)) (v2:=(GU,n3,JO)) rfl rfl qB ?_)
  go_meet
  have Vs:∀j,(Value.slice fA fn fc).ownBlock=some j->(wr.heap.size<=j/\j≠g)/\(Value.slice A2 m2 k2).ownBlock≠some j:=λj hj=>by
   rcases WY.out with e | e
   ·exact⟨ZU j (e ▸ hj),I7 j (e ▸ hj)⟩
   have e':some wc.heap.size=some j:=e.symm.trans hj;obtain⟨e2,h1,h2⟩:=zK3 (zI e') jy.size (aC HG);exact⟨zO,λe3=>by have:=(aS DZ j e3.symm).2;omega⟩
  refine⟨fA,fn,fc,by rw[dM HG'];rfl,nG.setCell fO _,?_,?_,λj hj=>(Vs j hj).1,Xa.out,λj hj=>(Vs j hj).2⟩
  ·rw[Uw,HXE.out];exact HO.bu λj hj=>gq (Vs j hj).1.2
  refine DZ.bu λj hj=>?_;rw[gq (Xa j hj).2];exact JQ.block j (aS DZ j hj.symm).2 (λe=>I7 j e.symm hj)
 rename World=>wd
 obtain⟨C9,ZT,k1',hg,bP,dV⟩:=hcut;obtain⟨o1,o2,c1,c2,c3⟩:=dV;clear x0 x1 x2 g0;obtain⟨AO,HGD,HD1,HD2,HD3,HP1,HP2⟩:=zJ7 bP hg c1 c2 c3 o1 o2;obtain⟨y0,y1,y2⟩:=dJ (ae Uz bP);have g0:=dJ hg;have asu:=zT uy.le bP.size;clear hg bP o1 o2 c1 c2 c3;go_upto_if 58 with fail
 go_cut [] (λwe=>∃A2 m2 k2,we.heap[g]?=some (.cells #[(C9,ZT,k1'),.slice A2 m2 k2,(xe&&ye:Bool)] 171)/\Bw wr we/\acf wr we base g (fG x y).first (fG x y).last (C9,ZT,k1') (.slice A2 m2 k2))
 case first=>
  cases ye
  ·go_wp2_with fail;go_meet;exact⟨A2,m2,k2,HGD,AO,HP1,by rw[WV,HYE.out];simpa using HP2.out,HD1.out,HD2.out,HD3.out⟩
  obtain⟨x0,x1,x2⟩:=dJ (ae HX2 AO)
  have aI:aY wd (λj=>Gx j/\j<w) 1 aV x.last WX k:=HX.ahn λj hj hG=>by
   rw[AO.block j zO,rM.block j zO (HGX j hG),az.block j hj]
  obtain⟨fA,fn,fc,w',bG,ho,yV,hob⟩:=EF wd base y.last x.last A2 m2 k2 HP2 WX k ZN _ aI (by rw[HN4.out,um.out];omega) asu 58;have dD:(Value.slice A2 m2 k2).ownBlock≠some g:=λe=>(HD2 g e).2 rfl;have FK:w'.heap[g]?=Zc #[(C9,ZT,k1'),(A2,m2,k2),(xe&&true:Bool)] 171:=(yV.block g (aC HGD) (λe=>dD e.symm)).trans HGD;have g0':=dJ FK;have t0:=k8 w' g 1 _ _ FK;have acm:Bw wr w':=⟨yV.os.trans AO.os,yV.tape.trans AO.tape,yV.output.trans AO.output,zT AO.size yV.size,λj hj=>(yV.block j (by have:=AO.size;omega) (λe=>by have:=(HD2 j e.symm).1;omega)).trans (AO.block j hj)⟩;obtain⟨qB,JQ,WY,HO,HG',nG⟩:=zJ6 bG yV hob ho FK acm;clear bG yV hob ho FK acm aI
  go_wp2_with (at_builtin;refine wO rfl (.tmp 60) (.tmp 62) 58 rfl (v1:=(A2,m2,k2)) (v2:=(WX,k,ZN)) rfl rfl qB ?_)
  go_meet
  have Vs:∀j,(Value.slice fA fn fc).ownBlock=some j->(wr.heap.size<=j/\j≠g)/\(Value.slice C9 ZT k1').ownBlock≠some j:=λj hj=>by
   rcases WY.out with e | e
   ·exact⟨HD2 j (e ▸ hj),λe3=>HD3 j e3 (e ▸ hj)⟩
   have e':some wd.heap.size=some j:=e.symm.trans hj;obtain⟨e2,h1,h2⟩:=zK3 (zI e') AO.size (aC HGD);exact⟨zO,λe3=>by have:=(aS HP1 j e3.symm).2;omega⟩
  refine⟨fA,fn,fc,by rw[dM HG'];rfl,nG.setCell fO _,?_,?_,HD1.out,λj hj=>(Vs j hj).1,λj hj e3=>(Vs j e3).2 hj⟩
  ·refine HP1.bu λj hj=>?_;rw[gq (HD1 j hj).2];exact JQ.block j (aS HP1 j hj.symm).2 (λe=>HD3 j hj e.symm)
  rw[WV,HYE.out];exact HO.bu λj hj=>gq (Vs j hj).1.2
 obtain⟨QU,m2',k2',hg,jm,o1,o2,c1,c2,c3⟩:=hcut;have g0:=dJ hg;have hr:wc.heap[w.heap.size+1+1]?=Zc #[(),(),false] 171:=(jm.block _ zO).trans ((rM.block _ zO (λe=>by have:=JR _ e;omega)).trans vC);obtain⟨r0,f0,pO,HQ1,HQ2,Ud,HE2,HE3⟩:=zK8 (dJ hr) (zF3 wc (w.heap.size+1+1) hr) (zH jm) (zH o1) (zH o2) (zH c1) (zH c2) (zH c3);have HR:=zH hr;clear y0 y1 y2 hg jm o1 o2 c1 c2 c3 hr;go_wp2_with fail;have hs:=yT (v0:=(C9,ZT,k1')) (v1:=(QU,m2',k2')) (v2:=(xe&&ye:Bool)) HR;obtain⟨l0,l1,l2⟩:=dJ hs;refine Qg (v:=.agg #[(C9,ZT,k1'),(QU,m2',k2'),(xe&&ye:Bool)]) (by simp[results,results166,go_sem,l0,l1,l2]) rfl ?_
 have BP:∀j,T' j->j<wr.heap.size/\j≠w.heap.size+1+1:=λj hj=>⟨(uy.inT j hj).2,λe=>by
  rcases fC j hj with h | h
  ·have:=JR j h;omega
  omega⟩
 refine⟨T',rs',_,_,rfl,uy.keep (by simp[World.setCell];exact pO.size) λj hj=>?_,gW,λj hj=>?_,?_,?_⟩
 ·have GL:j<wr.heap.size/\j≠w.heap.size+1+1:=by
   rcases hj with hj | hj
   ·exact BP j hj
   have:=HM.le;omega
  rw[kG GL.2];exact pO.block j GL.1
 ·rcases fC j hj with h | h
  ·exact .inl h
  right;omega
 ·refine⟨?_,?_,?_,?_,λj hj hn=>?_⟩
  ·exact pO.os.trans (rM.os.trans az.os)
  ·exact pO.tape.trans (rM.tape.trans az.tape)
  ·exact pO.output.trans (rM.output.trans az.output)
  ·have:=pO.size;simp[World.setCell];omega
  rw[kG zO,pO.block j zO,rM.block j zO hn,az.block j hj]
 have Jy:∀j,wr.heap.size<=j->w.heap.size<=j/\¬T' j:=λj hj=>⟨zO,λh=>by have:=(BP j h).1;omega⟩;exact⟨HQ1.bu λj hj=>kG (by have:=(Ud j hj).1;omega),HQ2.bu λj hj=>kG (by have:=(HE2 j hj).1;omega),λj hj=>Jy j (Ud j hj).1,λj hj=>Jy j (HE2 j hj).1,HE3⟩
def wP(w:World)(base bm:Nat)(T:Nat->Prop)(hd:Hd)(r:List aU×dR)(e:Ending)(w':World):Prop:=
 ∃(T':Nat->Prop) (pv':Value) (rs':List lK) (vf vl:Value),e= .returned (.agg #[vf,vl,r.2.empty])/\gV w' base T' bm hd r.1 pv' rs'/\(∀k,T k->T' k)/\(∀k,T' k->T k\/w.heap.size<=k)/\Kept T w w'/\iT w' base (λk=>w.heap.size<=k/\¬T' k) r.2 vf vl
def tu(pl:List aU):Prop:=∀(i:Nat) (q:aU),pl[i]?=q->q.follow.length<=300000
def QW(p:aJ):Prop:=∀(num:Nat) (cs:List Value) (w:World) (base bm:Nat) (T:Nat->Prop) (hd:Hd) (pl:List aU) (pv:Value) (rs:List lK),gV w base T bm hd pl pv rs->au w (· <base) (aZ p) cs->tu pl->pl.length+ja p<=1000->num+dh p<1000000->
 Cl 167 #[(bm,0),.agg cs.toArray,num] w (wP w base bm T hd (kL p num pl))
def Mc(p:aJ):Prop:=∀(num:Nat) (cs:List Value) (w:World) (base bm:Nat) (T:Nat->Prop) (hd:Hd) (pl:List aU) (pv:Value) (rs:List lK),gV w base T bm hd pl pv rs->au w (· <base) (aZ p) cs->tu pl->pl.length+lJ p<=1000->num+dh p<1000000->
 Cl 124 #[(bm,0),.agg cs.toArray,num] w (wP w base bm T hd (fV p num pl))
theorem ZV(once:List aU->List aU×dR):∀(n:Nat) (pl:List aU) (out:dR),kY once (n+1) pl out=(dB (once (kY once n pl out).1).1 (kY once n pl out).2 (once (kY once n pl out).1).2,fG (kY once n pl out).2 (once (kY once n pl out).1).2)
 | 0,pl,out=>by rw[kY,kY,kY]
 | n+1,pl,out=>by
   rw[kY,ZV once n];rw[show kY once (n+1) pl out=kY once n (dB (once pl).1 out (once pl).2) (fG out (once pl).2) from rfl]
theorem ZW(once:List aU->List aU×dR):∀(n:Nat) (pl:List aU) (tail:dR),mY once (n+1) pl tail=(dB (once (mY once n pl tail).1).1 (once (mY once n pl tail).1).2 (mY once n pl tail).2,{ fG (once (mY once n pl tail).1).2 (mY once n pl tail).2 with empty:=true })
 | 0,pl,tail=>by rw[mY,mY,mY]
 | n+1,pl,tail=>by
   rw[mY,ZW once n];rw[show mY once (n+1) pl tail=mY once n (dB (once pl).1 (once pl).2 tail) { fG (once pl).2 tail with empty:=true } from rfl]
theorem tu.made{pl:List aU}{r:List aU×dR}{L:List LI->Prop}{m:Nat}(h:tu pl)(hm:Made pl.length pl r L)(hb:Bd pl.length m n r)(h1:m<=300000):tu r.1:=λi q hq=>by
 rcases i8 i pl.length with aN | jT
 ·rw[hm.pre i aN] at hq;exact h i q hq
 exact zT (hb.qI i q jT hq) h1
theorem afO{p:aJ}(hg:kR p=true)(hn:dh p<=40)(hc:ja p<=200)(num:Nat)(pl:List aU)(j:Nat):
 Made pl.length pl (kY (kL p num) j pl oN) (qO (λw=>w=[]) (qP (rW p num) j))/\Bd pl.length (202800+j*ja p) (j*ja p) (kY (kL p num) j pl oN):=by
 have hm:=wK p hg hn num;have h1:=JH hm j (Made.nil pl);have hb:∀pl,Bd pl.length 202800 (ja p) (kL p num pl):=λpl=>(Ik p hg hn hc num pl).up zO;have h2:=Yu hm hb j (Made.nil pl) ((Bd.nil pl true).up (m':=202800) zO) (zR _);rw[d9] at h2;exact⟨h1,h2⟩
theorem arx{p:aJ}(hg:kR p=true)(hn:dh p<=40)(hc:ja p<=200)(num:Nat)(pl:List aU)(j:Nat)(hj:j*ja p<=200):
 Made pl.length pl (mY (kL p num) j pl oN) (λw=>∃m,m<=j+0/\qP (rW p num) m w)/\Bd pl.length (202800+j*200) (j*ja p) (mY (kL p num) j pl oN):=by
 have hm:=wK p hg hn num;have h0:=(Made.nil pl).wJ (L':=λw=>∃m,m<=0/\qP (rW p num) m w) (λw=>⟨λh=>⟨0,zR _,h⟩,λ⟨m,h1,h2⟩=>by obtain rfl:m=0:=Nat.le_zero.1 h1;exact h2⟩);have h1:=JI hm j 0 h0;have hb:∀pl,Bd pl.length 202800 (ja p) (kL p num pl):=λpl=>(Ik p hg hn hc num pl).up zO;have h2:=Yv (K:=200) hm hb j (Made.nil pl) ((Bd.nil pl true).up (m':=202800) zO) (zR _) zO;rw[d9] at h2;exact⟨h1,h2⟩
def qx(f:α->α->Bool):List α->List α->Bool
 | [],[]=>true
 | x::l,y::l'=>f x y&&qx f l l'
 | _,_=>false
theorem Ib{l l':List α}{x y:α}(hx:l[i]?=x)(hy:l'[i]?=y):qx f (l.drop i) (l'.drop i)=(f x y&&qx f (l.drop (i+1)) (l'.drop (i+1))):=by
 obtain⟨h1,rfl⟩:=z4.1 hx;obtain⟨h2,rfl⟩:=z4.1 hy;rw[nZ h1,nZ h2,qx]
theorem Sj:∀{l l':List α},l.length≠l'.length->qx f l l'=false
 | [],[],h=>absurd rfl h
 | [],_::_,_=>by simp[qx]
 | _::_,[],_=>by simp[qx]
 | x::l,y::l',h=>by rw[qx,Sj (by simpa using h),Bool.and_false]
def Ox(a b:Nat):Bool:=a==b
theorem adE(l l':List Nat)(A A':Option Addr)(n n' c c':Nat)(w:World)(F F':Nat->Prop)(h1:aY w F 1 aV l A n)(h2:aY w F' 1 aV l' A' n')(hn:n<6000000000000):
 Rt 40 #[(A,n,c),(A',n',c')] w (qx Ox l l'):=by
 have aI:=h1.here (λx=>by simp[aV]);have kK:=h2.here (λx=>by simp[aV]);clear h1 h2;by_cases JC:n=n'
 ·subst JC;have jm:(!((n:Int)==(n:Int)))=false:=zS4;go_enter func40,ntmps40;go_wp2_with fail
  go_loopw [5] (λsi wr=>∃i:Nat,i<=n/\si= i/\Hid (qx Ox l l'=qx Ox (l.drop i) (l'.drop i))/\Bw w wr)
   (λsi _=>n - (intOf si).toNat)
  case atStart=>exact⟨0,zO,rfl,zH rfl,j9 _ _⟩
  obtain⟨i,hi,rfl,HL,aH⟩:=hrel;by_cases aN:i<n
  ·obtain⟨b1,xU,x,HX,p0,dO⟩:=(aI.below aH).nat aN c;obtain⟨b2,ahT,y,HY,r0,hiy⟩:=(kK.below aH).nat aN c';have hd:=zT1 (i<n);obtain⟨v,hv⟩:=zF (Ox x y)
   have hq1:((x:Int)==(y:Int))=v:=by
    rw[<-hv];unfold Ox;by_cases e:x=y
    ·subst e;simp
    rw[beq_eq_false_iff_ne.2 e,beq_eq_false_iff_ne.2 (λh=>e zO)]
   have hq2:((x:Int) !=(y:Int))=!v:=(by rw[bne,hq1]);have HV:=zH hv;clear hv;cases v
   ·rw[Bool.not_false] at hq2;go_wp2_with fail
    go_quiet (fail)
    go_wp2_with fail;go_ret;exact⟨aK (by rw[HL.out,Ib HX HY,HV.out];rfl),aH.drewN _⟩
   rw[Bool.not_true] at hq2;go_wp2_with fail
   go_quiet (fail)
   go_wp2_with fail;go_roundw
   case rel=>exact⟨i+1,zO,by go_num,zH (by rw[HL.out,Ib HX HY,HV.out];rfl),aH.drewN _⟩
   simp[intOf];omega
  have hd:=zT2 (i<n);have zU:l.drop i=[]:=z14 (by have:=aI.len;omega);have auj:l'.drop i=[]:=z14 (by have:=kK.len;omega);obtain⟨HE,HE'⟩:=zJ2 zU auj;clear zU auj;go_wp2_with fail;go_ret;exact⟨aK (by rw[HL.out,HE.out,HE'.out];rfl),aH⟩
 have Xh:Hid (qx Ox l l'=false):=Sj (by have:=aI.len;have:=kK.len;omega);have hb:(((n:Int)==(n':Int)))=false:=zS1;have ag:(((n:Int) !=(n':Int)))=true:=zS1;clear JC;go_enter func40,ntmps40;go_wp2_with fail;go_ret;exact⟨aK Xh.symm,j9 _ _⟩
