import Derived.Test.YtgmnnegfndpakaaGreatDoorH29
set_option maxHeartbeats 20000000
set_option maxRecDepth 100000
namespace Go.Proofs.YtgmnnegfndpakaaGreatDoor
open Go.RowKit Go.Proofs.Tryz
section
attribute [local go_sem] Oper.semAt_some
theorem abg{κ β:Type}{F:Fence}{n:Nat}{P:Program}{ops:Array Oper}{rest:List Oper}{o:Oper}{a:Act}{Q:Exit->Act->World->Prop}{w:World}(uO:o.guard=none)(m x v:Operand)(mt:TypeId)(uQ:o.op= .insert mt m x v)
 {kt et:TypeId} {enc:κ->Value} {val:β->Value} {eq:κ->κ->Bool} (K:NM P kt enc eq) (hm:P.underlying mt=some (.map kt et)) (g:Nat) (l:List (κ×β)) (hs:a.eval m= .map (some g)) (h:gQ w g enc val l)
 (k:κ) (hk:a.eval x=enc k) (b:β) (hv:a.eval v=val b)
 (hK:∀w',gQ w' g enc val (jh eq k b l)->(∀b,b≠g->w'.heap[b]?=w.heap[b]?)->w'.heap.size=w.heap.size->Kept (· =g) w w'->wpListIn F n P ops Q rest (a.put o.dst undef) w'):wpListIn F n P ops Q (o::rest) a w:=by
 refine wpListIn_plain uO λK' hK'=>?_;obtain⟨w',hw,h1,h2,h3,h4⟩:=h.put (l':=jh eq k b l);have bG:=ED K hm h k b;rw[hw] at bG;unfold Oper.wpIn;refine⟨?_,?_⟩
 ·simp[Oper.about,uQ]
 rw[Oper.semAt_plain F _ _ (by rw[uQ];intro c yu;cases yu)];simp[execOp,uQ,hs,hk,hv,bG,Result.andThen];exact hK' _ _ (hK w' h1 h2 h3 h4)
def Lv3(m:eQ)(base g8:Nat)(qi:World)(d:Nat)(s9:Value)(W:World):Prop:=∃j st,uf m - j=d/\OC m j st/\xG W base g8 st.1 st.2 s9/\Kept (λq=>q=g8\/base<=q) qi W
theorem VQ(m:eQ)(B bm:Nat)(w:World)(hM:mO w B bm m)(fQ:mQ m)(hB:B<=w.heap.size)(uw:∀s,(gK m s).length<=300000)(hT:Tab w):
 Cl 73 #[(bm,0)] w λe w'=>∃g,e= .returned (.map (some g))/\jY w' g (aao m)/\w.heap.size<=g/\Bw w w':=by
 obtain⟨wa,BK,Sa,nD,bJ⟩:=af w (Zc #[(bm,0)] 93);obtain⟨wb,hwb,Sb,Zo,dY⟩:=af wa (.map #[] 0);have e1:wa.heap.size=w.heap.size+1:=(by rw[<-BK];simp);have e2:wb.heap.size=w.heap.size+1+1:=(by rw[<-hwb,World.size_alloc,e1]);obtain⟨wc,hwc,Sc,hsc,CZ⟩:=af wb (Zc #[.map (some (w.heap.size+1))] 191);have e3:wc.heap.size=w.heap.size+1+1+1:=(by rw[<-hwc,World.size_alloc,e2]);obtain⟨wd,WZ,Sd,hsd,bP⟩:=af wc (.map #[] 0);have e4:wd.heap.size=w.heap.size+1+1+1+1:=(by rw[<-WZ,World.size_alloc,e3]);rw[e3] at Sd;rw[e2] at Sc;rw[e1] at Sb;have M0:Hid (gQ wd (w.heap.size+1+1+1) vM bV ([]:List (Int×Bool))):=zH Sd;have HSa:=zH (ae Sa (dY.seq (CZ.seq bP)));have QT:=zH (ae Sb (CZ.seq bP));have HSc:=zH (ae Sc bP);have AO:Hid (Bw w wd):=zH (bJ.seq (dY.seq (CZ.seq bP)));obtain⟨HM,jr,wu,ahY,L8⟩:=zK5 (zH hM) (zH fQ) (zH uw) (zH hT) (@run_makeMap prog);have l9:prog.follows .mixedOrders=true:=zS2;clear Sa Sb Sc Sd hM fQ uw hT;refine (t6 (n:=3)).1 ?_;refine callsIn_of_wp_marks func73 rfl trivial ?_ rfl;simp only[ntmps73,YV,z9,z24,Nat.reduceAdd,Nat.reduceSub,Ze,Zd,List.push_toArray,ZD,d6,m7]
 gi_wp2_with (first
  | (with_reducible refine abg rfl (.tmp 16) (.const (0:Int)) (.const true) 122 rfl (et:=4) (val:=bV) qJ underlying122 (w.heap.size+1+1+1) [] rfl M0.out (0:Int) rfl true rfl ?_
     intro wE g1 g2 g3 g4;have eE:wE.heap.size=w.heap.size+1+1+1+1:=g3.trans e4;obtain⟨w5,pq,S5,IY,bg⟩:=af wE (Zc #[.map (some (w.heap.size+1+1+1))] 122);obtain⟨w6,hw6,S6,hs6,dQ⟩:=af w5 (Zc #[(0:Int)] 3);have e5:w5.heap.size=w.heap.size+1+1+1+1+1:=(by rw[<-pq,World.size_alloc,eE]);have e6:w6.heap.size=w.heap.size+1+1+1+1+1+1:=(by rw[<-hw6,World.size_alloc,e5]);obtain⟨w7,JX,S7,hs7,eP⟩:=af w6 (Zc #[(w.heap.size+1+1+1+1+1,0,1,1)] 58);have e7:w7.heap.size=w.heap.size+1+1+1+1+1+1+1:=(by rw[<-JX,World.size_alloc,e6]);obtain⟨w8,Kt,S8,hs8,eX⟩:=af w7 (Zc #[(0:Int)] 3);have e8:w8.heap.size=w.heap.size+1+1+1+1+1+1+1+1:=(by rw[<-Kt,World.size_alloc,e7]);rw[e7] at S8;rw[e6] at S7;rw[e5] at S6;rw[eE] at S5;have c8:=aO S8;have f8:=k8 w8 (w.heap.size+1+1+1+1+1+1+1) 0 _ _ S8;obtain⟨w1,bI⟩:=zF (w8.setCell (w.heap.size+1+1+1+1+1+1+1,0) (0:Int));obtain⟨XH,xC,HG3,zu,vW,yX,G5,HS8⟩:=zJ8 g1 g2 g3 g4 S5 S6 S7 S8;obtain⟨BU,KH,oQ,Ac,Xz⟩:=zJ5 bg dQ eP eX bI
     clear g1 g2 g3 g4 S5 S6 S7 S8 bg dQ eP eX))
 obtain⟨I1,hI1⟩:∃I:Nat->Act->World->Prop,I=(λk a' wr=>∃(u7 u19 u20 u21 u22 u23 u24 u25 u26 u27 u28 u29 u30 u31 u32 u33 u34 u35 u36 u37 u38 u39 u40 u41 u42 u43 u44 u45 u46 u47 u48 u49 u50 u51 u52 u53 u54 u55 u56 u57 u58 u59 u60 u61 u62 u63:Value) (ds:List Nat) (kb:Nat) (st:CQ) (v:Value) (T:Nat->Prop),(OA m k st/\mD wr w (w.heap.size+1) (w.heap.size+1+1+1) (w.heap.size+1+1+1+1+1+1) (λq=>q=w.heap.size+1+1+1+1+1\/w1.heap.size<=q) kb k st.back st.list st.list v T/\(kb=w.heap.size+1+1+1+1+1+1+1\/w1.heap.size<=kb)/\Kept (λq=>q=w.heap.size+1\/q=w.heap.size+1+1+1\/q=w.heap.size+1+1+1+1+1\/q=w.heap.size+1+1+1+1+1+1\/q=w.heap.size+1+1+1+1+1+1+1\/w1.heap.size<=q) w1 wr/\ji ds wr/\∀D∈ds,w1.heap.size<=D)/\a'={ tmps:=#[.pointer (some ⟨bm,0,none⟩),.pointer (some ⟨w,0,none⟩),.map none,.pointer (some ⟨w.heap.size+1+1,0,none⟩),.pointer (some ⟨w.heap.size+1+1+1+1,0,none⟩),.pointer (some ⟨w.heap.size+1+1+1+1+1+1,0,none⟩),.pointer (some ⟨kb,0,none⟩),u7,undef,undef,undef,undef,undef,undef,undef,.map (some (w.heap.size+1)),.map (some (w.heap.size+1+1+1)),.map (some (w.heap.size+1+1+1)),.slice (some ⟨w.heap.size+1+1+1+1+1,0,none⟩) 1 1,u19,u20,u21,u22,u23,u24,u25,u26,u27,u28,u29,u30,u31,u32,u33,u34,u35,u36,u37,u38,u39,u40,u41,u42,u43,u44,u45,u46,u47,u48,u49,u50,u51,u52,u53,u54,u55,u56,u57,u58,u59,u60,u61,u62,u63,undef,undef,undef,undef,undef,undef,undef,undef,undef,undef,undef,undef,undef,undef,undef,undef,undef,undef,undef,undef,undef,undef,undef,undef,undef,undef,undef,undef,undef,undef,undef,undef,undef,undef,undef,undef,undef,undef,undef,undef,undef,undef,undef,undef,undef,undef,undef,undef,undef,undef,undef],defers:=ds.map abp }):=⟨_,rfl⟩;have HI1:=zH hI1;clear hI1;refine ahV I1 (λk=>uf m+1 - k) 0 ?start ?round
 case start=>
  have nC:w1.heap.size=w.heap.size+1+1+1+1+1+1+1+1:=(by rw[<-Xz.out];simpa using e8);have Lu:∀q,q≠w.heap.size+1+1+1+1+1+1+1->w1.heap[q]?=w8.heap[q]?:=λq hq=>(by rw[<-Xz.out];exact gq hq);have b58:∀q,q<wE.heap.size->w8.heap[q]?=wE.heap[q]?:=λq hq=>(BU.seq (KH.seq (oQ.seq Ac))).block q hq;have q1:w1.heap[w.heap.size+1]?=some (.map #[] 0):=(by rw[Lu _ zO,b58 _ zO,xC _ zO];exact QT);have q3:gQ w1 (w.heap.size+1+1+1) vM bV (jh jL 0 true ([]:List (Int×Bool))):=XH.keep (by rw[Lu _ zO,b58 _ zO]);have q5:w1.heap[w.heap.size+1+1+1+1+1]?=Zc #[(0:Nat)] 3:=(by rw[Lu _ zO];exact ae yX (oQ.seq Ac));have q6:w1.heap[w.heap.size+1+1+1+1+1+1]?=Zc #[(w.heap.size+1+1+1+1+1,0,1,1)] 58:=(by rw[Lu _ zO];exact ae G5 Ac);have q7:w1.heap[w.heap.size+1+1+1+1+1+1+1]?=Zc #[(0:Nat)] 3:=(by rw[<-Xz.out];exact bD HS8);rw[HI1.out];refine⟨_,_,_,_,_,_,_,_,_,_,_,_,_,_,_,_,_,_,_,_,_,_,_,_,_,_,_,_,_,_,_,_,_,_,_,_,_,_,_,_,_,_,_,_,_,_,[],w.heap.size+1+1+1+1+1+1+1,⟨[0],[]⟩,(w.heap.size+1+1+1+1+1,0,1,1),(λ_=>False),⟨OA.start m,?_,.inl rfl,Kept.refl _ _,⟨List.nodup_nil,λD h=>(by simp at h)⟩,λD h=>(by simp at h)⟩,rfl⟩
  exact {
   back:=qh.new q1
   mark:=⟨_,q3,λs=>by
    by_cases e:s=0
    ·subst e;simp[jh,dP,jL]
    simp[jh,dP,jL,e]⟩
   cell:=q6
   own:=sQ q5 zO
   kc:=q7
   vz:=λq hq=>by
    obtain rfl:w.heap.size+1+1+1+1+1=q:=(by simpa[Value.ownBlock] using hq);exact⟨.inl rfl,λh=>h,zO⟩
   tz:=λq hq=>hq.elim
   ne:=by omega
   zz:=λq hq=>by omega }
 intro k a0 wr hI0;rw[HI1.out] at hI0;obtain⟨u7,u19,u20,u21,u22,u23,u24,u25,u26,u27,u28,u29,u30,u31,u32,u33,u34,u35,u36,u37,u38,u39,u40,u41,u42,u43,u44,u45,u46,u47,u48,u49,u50,u51,u52,u53,u54,u55,u56,u57,u58,u59,u60,u61,u62,u63,ds,kb,st,v,T,⟨oV,jb,yw,eF,FU,Oq⟩,rfl⟩:=hI0;have nC:w1.heap.size=w.heap.size+1+1+1+1+1+1+1+1:=(by rw[<-Xz.out];simpa using e8);have Lu:∀q,q≠w.heap.size+1+1+1+1+1+1+1->w1.heap[q]?=w8.heap[q]?:=λq hq=>(by rw[<-Xz.out];exact gq hq);have b58:∀q,q<wE.heap.size->w8.heap[q]?=wE.heap[q]?:=λq hq=>(BU.seq (KH.seq (oQ.seq Ac))).block q hq;have y0:w1.heap[w.heap.size]?=Zc #[(bm,0)] 93:=(by rw[Lu _ zO,b58 _ zO,xC _ zO];exact HSa);have y2:w1.heap[w.heap.size+1+1]?=Zc #[.map (some (w.heap.size+1))] 191:=(by rw[Lu _ zO,b58 _ zO,xC _ zO];exact HSc);have y4:w1.heap[w.heap.size+1+1+1+1]?=Zc #[.map (some (w.heap.size+1+1+1))] 122:=(by rw[Lu _ zO];exact ae vW (KH.seq (oQ.seq Ac)))
 have ai:Bw w w1:=by
  refine⟨?_,?_,?_,zO,λq hq=>?_⟩
  ·rw[<-Xz.out];exact(BU.seq (KH.seq (oQ.seq Ac))).os.trans (zu.os.trans AO.os)
  ·rw[<-Xz.out];exact(BU.seq (KH.seq (oQ.seq Ac))).tape.trans (zu.tape.trans AO.tape)
  ·rw[<-Xz.out];exact(BU.seq (KH.seq (oQ.seq Ac))).output.trans (zu.output.trans AO.output)
  rw[Lu _ zO,b58 _ zO,xC _ zO];exact AO.block q hq
 clear Lu b58;obtain⟨A,c,rfl⟩:=jb.own.form;obtain⟨n,hn⟩:=zF st.list.length;rw[hn] at jb;have XU:=EO jr;have bY:=oV.ok.size;rw[hn] at bY;have hle:=oV.le;rw[hn] at hle;have r0:=bF y0 eF zO;have r2:=bF y2 eF zO;obtain⟨r4,c1,c5,c6⟩:=zK4 (bF y4 eF zO) (aO r0) (aO jb.cell) (aO jb.kc);have aIp:w1.heap.size<=wr.heap.size:=eF.size;obtain⟨HN,UU,anD,pW,zY,Ot,HY0,Uz⟩:=zJ8 hn oV jb eF FU Oq y0 y2;obtain⟨HY4,nK,FZ⟩:=zJ3 y4 ai XU;(try dsimp only);by_cases aN:k<n
 ·have jV:=zT1 (k<n);obtain⟨A',c',hv',aI,-,-⟩:=jb.own.row jd zD;simp only[i6] at hv';obtain⟨rfl,-,rfl⟩:=hv';rw[hn] at aI;obtain⟨sb,so,s,yD,jw,dO⟩:=aI.nat aN c;clear aI hn oV jb eF FU Oq y0 y2 y4 ai r0 r2 r4 XU;gi_wp2;have hHeld:wr.drew.cell? w=(bm,0)/\wr.drew.cell? (w.heap.size+1+1+1+1+1+1,0)=(A,n,c)/\wr.drew.cell? kb=k/\wr.drew.cell? (sb,so+k)=s:=⟨c1,c5,c6,jw⟩;refine aP.ak2 (λW=>W.cell? w=(bm,0)/\W.cell? (w.heap.size+1+1+1+1+1+1,0)=(A,n,c)/\W.cell? kb=k/\W.cell? (sb,so+k)=s) 5 zK ?_;refine aP.tk 0 5 [] hHeld ?_;refine aP.tk 1 3 [4,5] hHeld ?_;refine aP.tk 2 3 [4,5] hHeld ?_;refine aP.tk 3 4 [5] hHeld ?_;refine aP.tk 4 5 [] hHeld ?_;refine aP.on 5 λK hK=>?_;go_simp
  have aur:Cl 82 #[(bm,0),s] wr.drew λe w'=>e= .returned (.func (.func 145) #[] #[(wr,0),(wr.heap.size+1,0)])/\w'.heap[wr.heap.size]?=Zc #[(bm,0)] 93/\w'.heap[wr.heap.size+1]?=Zc #[s] 3/\w'.heap.size=wr.heap.size+2/\Bw wr w':=
   Calls.mono (P:=prog) (f:=82) (RU bm s wr.drew) λe w' h=>⟨h.1,h.2.1,h.2.2.1,h.2.2.2.1,⟨h.2.2.2.2.os,h.2.2.2.2.tape,h.2.2.2.2.output,h.2.2.2.2.size,h.2.2.2.2.block⟩⟩
  refine⟨trivial,?_⟩;gi_at_call 82;refine (t6.2 aur).mono ?_;rintro e w4 ⟨rfl,U1,U2,e4,aX⟩;refine iW hK ?_;clear hK K aur hHeld;(try simp only[Act.put,dG,dH,dI]);refine aP.dn ?_;(try simp only[abq]);gi_wp2;have hBr:Below B w wr:=(nK.mono hB).trans (pW.below zO zO);have TP:Below B w w4:=hBr.trans (aX.mono zO);have Ea:mO w4 B bm m:=HM.below TP;obtain⟨rl,AU,kP,yQ⟩:=agz m B bm wr (wr.heap.size+1) s w4 (λq=>w.heap.size<=q/\q<wr.heap.size) Ea jr zO U1 U2 (λq hq=>by omega) ((UU.ok.ok s (List.mem_of_getElem? yD)).ok jr);have hlen:rl.length<=300000:=(by rw[<-z8 (f:=(·.1)),AU];exact wu s);obtain⟨BR,HRC,pR,HB4,Hb4⟩:=zJ5 AU kP hlen TP aX;clear AU kP Ea TP hlen U1 U2 c1 c5 c6 jw hBr;obtain⟨IR1,aus⟩:∃I:List SP->World->Prop,I=(λpre W=>∃v' T',mD W w (w.heap.size+1) (w.heap.size+1+1+1) (w.heap.size+1+1+1+1+1+1) (λq=>(q=w.heap.size+1+1+1+1+1\/w1.heap.size<=q)/\(q<wr.heap.size\/w4.heap.size+2<=q)) kb k ((pre.map (·.1)).foldl (oq m s) st).back ((pre.map (·.1)).foldl (oq m s) st).list ((pre.map (·.1)).foldl (oq m s) st).list v' T'/\Kept (λq=>q=w.heap.size+1\/q=w.heap.size+1+1+1\/q=w.heap.size+1+1+1+1+1\/q=w.heap.size+1+1+1+1+1+1\/q=w.heap.size+1+1+1+1+1+1+1\/w1.heap.size<=q) w1 W/\ji ds W):=⟨_,rfl⟩;obtain⟨He,HE4⟩:=zJ2 aus e4;clear aus e4
  refine Lp (gf:=145) (lb:=#[.pointer (some ⟨wr,0,none⟩),.pointer (some ⟨wr.heap.size+1,0,none⟩)]) rfl (enters_of func145 zK rfl) yQ (Kept.refl _ _) (λq hq=>by have e4:=HE4.out;omega) (λ_=>rfl)
   IR1
   (λ_ _ _=>False) ?hI ?hL (λ_ _ _ _ h=>h.elim) ?h0
   (λx W=>{ tmps:=#[.pointer (some ⟨bm,0,none⟩),.pointer (some ⟨w,0,none⟩),.map none,.pointer (some ⟨w.heap.size+1+1,0,none⟩),.pointer (some ⟨w.heap.size+1+1+1+1,0,none⟩),.pointer (some ⟨w.heap.size+1+1+1+1+1+1,0,none⟩),.pointer (some ⟨kb,0,none⟩),.pointer (some ⟨W,0,none⟩),undef,undef,undef,undef,undef,undef,undef,.map (some (w.heap.size+1)),.map (some (w.heap.size+1+1+1)),.map (some (w.heap.size+1+1+1)),.slice (some ⟨w.heap.size+1+1+1+1+1,0,none⟩) 1 1,.int .i64 k,.slice A n c,.int .i64 n,.bool true,u23,u24,.pointer (some ⟨bm,0,none⟩),.slice A n c,.int .i64 k,.pointer (some ⟨sb,so+k,none⟩),.int .i64 s,.func (.func 145) #[] #[.pointer (some ⟨wr,0,none⟩),.pointer (some ⟨wr.heap.size+1,0,none⟩)],.agg #[.int .i64 x.1.dst,.int .i64 x.1.num,.int .i64 x.2.k,.int .i64 x.2.mn,.int .i64 x.2.mx,.int .i64 x.2.el,.int .i64 x.2.ck,.string x.2.ns,.string x.2.nl,.string x.2.sp,.slice x.2.A1 x.2.n1 x.2.c1,.slice x.2.A2 x.2.n2 x.2.c2,.int .i64 x.2.pr,.slice x.2.A x.2.n x.2.c],u32,u33,u34,u35,u36,u37,u38,u39,u40,u41,u42,u43,u44,u45,u46,u47,u48,u49,u50,u51,u52,u53,u54,u55,u56,u57,u58,u59,u60,u61,u62,u63,undef,undef,undef,undef,undef,undef,undef,undef,undef,undef,undef,undef,undef,undef,undef,undef,undef,undef,undef,undef,undef,undef,undef,undef,undef,undef,undef,undef,undef,undef,undef,undef,undef,undef,undef,undef,undef,undef,undef,undef,undef,undef,undef,undef,undef,undef,undef,undef,undef,undef,undef],defers:=[] })
   (λx W=>W.alloc (Zc #[x.1.dst,x.1.num,x.2.k,x.2.mn,x.2.mx,x.2.el,x.2.ck,x.2.ns,x.2.nl,x.2.sp,(x.2.A1,x.2.n1,x.2.c1),(x.2.A2,x.2.n2,x.2.c2),x.2.pr,(x.2.A,x.2.n,x.2.c)] 139)) (λ_ W=>(j9 _ _).alloc (zR _) _) ?assign ?body ?done (λ_ _ _ _ h=>h.elim)
  case hI=>
   intro pre A' B' h0 _ hb;rw[He.out] at h0 ⊢;obtain⟨v',T',h1,h2,h3⟩:=h0;exact⟨v',T',h1.below hb,h2.trans (Qh hb),h3.below hb⟩
  case hL=>
   intro pre A' B' h0 _ fM;rw[He.out] at h0 ⊢;obtain⟨v',T',h1,h2,h3⟩:=h0;have e4:=HE4.out;have amK:=aC anD.kc;refine⟨v',T',h1.keep fM.size (λq hq hz=>fM.block q hq zO),h2.trans (fE fM λq hq=>by omega),h3.keep λD hD=>fM.block D (aC (h3.2 D hD)) (by have:=aC (zY.2 D hD);omega)⟩
  case h0=>
   intro W mV _;rw[He.out];have e4:=HE4.out;have hb:=Hb4.seq mV;exact⟨_,_,(anD.auo (λq hq aN=>⟨hq,.inl aN⟩) (λq hq=>by omega)).below hb,pW.trans (Qh hb),zY.below hb⟩
  case assign=>
   intro mm l x W K hK;simp only[spE,UO,EK,Ha.cells,m7,d6];gi_wp2;exact hK
  case body=>
   rintro mm l pre ⟨y,⟨kx,gU,gz,gZ,ig,ik,iq,iw,iy,iC,iD,iE,iF,iG,iH,Ax,nx,cx⟩⟩ W W2 hI2 mM o8 hkW;rw[He.out] at hI2;obtain⟨v',T',nJ,h4,h5⟩:=hI2;have XC:(W.alloc (Zc #[y.dst,y.num,kx,gU,gz,gZ,ig,ik,iq,iw,(iy,iC,iD),(iE,iF,iG),iH,(Ax,nx,cx)] 139)).heap.size=W.heap.size+1:=zS4;have hW2:W.heap.size+1<=W2.heap.size:=(by rw[<-XC];exact hkW.size);have S9:W2.heap[W.heap.size]?=Zc #[y.dst,y.num,kx,gU,gz,gZ,ig,ik,iq,iw,(iy,iC,iD),(iE,iF,iG),iH,(Ax,nx,cx)] 139:=bF (heap_alloc_new W _) hkW zO;obtain⟨x0,x1,x2,x3,x4,x5,x6,x7,x8,x9,yM,yN,x12,x13⟩:=KA S9;have T1:=bF HY0 h4 zO;have d1:=aO T1;have jb:(y,(⟨kx,gU,gz,gZ,ig,ik,iq,iw,iy,iC,iD,iE,iF,iG,iH,Ax,nx,cx⟩:Ha))∈rl:=mM.subset zP;have hBW:Below B w W2:=(nK.mono hB).trans (h4.below zO zO);have iO:∀q,q<B->W2.heap[q]?=w4.heap[q]?:=λq hq=>(hBW.block q hq).trans (HB4.block q hq).symm;have bH:au W2 (· <B) (aZ y.leaf) [kx,gU,gz,gZ,ig,ik,iq,iw,(iy,iC,iD),(iE,iF,iG),iH,(Ax,nx,cx)]:=(HRC _ jb).keep λq hq=>⟨hq,iO q hq⟩;have XV:y∈gK m s:=(by rw[<-BR.out];exact List.mem_map_of_mem (f:=(·.1)) jb);have KC:xE m.elems y.leaf:=Oo jr (s:=s) XV;have adM:Bw w W2:=nK.trans (h4.below zO zO);obtain⟨sv,hsv⟩:=zF (Hr m.elems y.leaf)
   have XW:Hid (Rt 83 #[(bm,0),.agg (o5 kx gU gz gZ ig ik iq iw iy iC iD iE iF iG iH Ax nx cx)] W2 sv):=zH (by
    have h:=aas m B bm y.leaf _ W2 (HM.below hBW) (by have:=hBW.size;omega) bH KC (ahY.below adM)
    rw[hsv] at h;exact h)
   obtain⟨st1,adO⟩:=zF (((pre.map (·.1)).foldl (oq m s) st));rw[adO] at nJ;obtain⟨A2,c2,rfl⟩:=nJ.own.form;obtain⟨n2,qY⟩:=zF st1.list.length;rw[qY] at nJ;have um:=zH qY;clear qY
   have YL:((pre++[(y,(⟨kx,gU,gz,gZ,ig,ik,iq,iw,iy,iC,iD,iE,iF,iG,iH,Ax,nx,cx⟩:Ha))]).map (·.1)).foldl (oq m s) st=oq m s st1 y:=by
    rw[Qb,List.foldl_append,adO];rfl
   have Az:pre.length<=300000:=by
    have h6:pre.length<=rl.length:=(by have:=mM.length_le;rw[List.length_append] at this;omega);exact zT h6 pR
   have anE:qU m (k*300000+pre.length) st1:=by
    have h:=qU.fold jr (pre.map (·.1)) UU.ok (List.mem_of_getElem? yD) (λx hx=>by
     rw[<-BR.out];obtain⟨t,ht⟩:=mM;rw[<-ht,Qb,Qb]
     exact z12.2 (.inl (z12.2 (.inl hx))))
    rw[z8,adO] at h;exact h
   have amM:∀t,(fZ t st1.back).length<1000000000000:=λt=>by
    have h1:=anE.len t;have h2:k*300000<=4297*300000:=Nat.mul_le_mul_right _ (by have:=FZ.out;omega);omega
   have aut:st1.list.length<1000000000000:=(by have:=anE.size;have:=FZ.out;omega);obtain⟨r1,LV⟩:∃r,st1.list=st.list++r:=(by rw[<-adO];exact Lt _ _);have auu:st1.list[k]?=s:=(by rw[LV,z20 (by rw[HN.out];exact aN)];exact yD);obtain⟨anF,uy,H4,H5,XD,aB4,aB5,auv⟩:=zJ8 YL nJ h4 h5 S9 amM aut auu;have HSV:=zH hsv;clear YL nJ h4 h5 S9 amM aut auu hsv anE Az bH KC XV jb mM iO hBW adM T1 hkW XC adO LV r1;cases sv
   ·gi_wp2_with (refine⟨trivial,(λh=>by cases h),?_⟩;gi_at_call 83;refine ((t6.2 XW).inRound l).mono ?_;rintro e w7 ⟨rfl,eP⟩)
    refine⟨Qh eP,?_⟩;rw[He.out];refine⟨(A2,n2,c2),T',?_,H4.trans (Qh eP),H5.below eP⟩;rw[anF.out];have e:oq m s st1 y=st1:=(by unfold oq;rw[HSV.out];rfl);rw[e];exact uy.below eP
   gi_wp2_with (refine⟨trivial,(λh=>by cases h),?_⟩;gi_at_call 83;refine ((t6.2 XW).inRound l).mono ?_;rintro e w7 ⟨rfl,eP⟩)
   have h7:mD w7.drew w (w.heap.size+1) (w.heap.size+1+1+1) (w.heap.size+1+1+1+1+1+1) (λq=>(q=w.heap.size+1+1+1+1+1\/w1.heap.size<=q)/\(q<wr.heap.size\/w4.heap.size+2<=q)) kb k st1.back st1.list st1.list (A2,n2,c2) T':=uy.keep eP.size (λq hq _=>eP.block q hq);have s27:W2.heap.size<=w7.heap.size:=eP.size;have ahZ:Bw W2 w7.drew:=⟨eP.os,eP.tape,eP.output,eP.size,eP.block⟩;have s17:w1.heap.size<=W2.heap.size:=H4.size
   have aB6:∀q,w7.drew.heap.size<=q->(λq=>(q=w.heap.size+1+1+1+1+1\/w1.heap.size<=q)/\(q<wr.heap.size\/w4.heap.size+2<=q)) q:=λq hq=>by
    have:w7.heap.size<=q:=hq;exact⟨.inr zO,.inr zO⟩
   obtain⟨w8,Kt⟩:=zF (w7.drew.alloc (Zc #[s] 3));obtain⟨A3,c3,n3,v8,w9,oH,pg,Bq,anG,auw,b8,b9,Sm,zy⟩:=h7.push y.dst s (aB4 _) (by show w.heap.size<=w7.heap.size;omega) aB6 Kt;have dm:k<n2:=(by rw[<-um.out];exact(List.getElem?_eq_some_iff.1 auv).1);obtain⟨sb2,s2,gY,auy,adP,XX,auz⟩:=h7.own.abr um dm;obtain rfl:s=s2:=zI (auv.symm.trans gY);have nTb:¬T' sb2:=(h7.vz _ auy).2.1;obtain⟨csb,adP⟩:=adP;have XY:w7.drew.heap[W.heap.size]?=Zc #[y.dst,y.num,kx,gU,gz,gZ,ig,ik,iq,iw,(iy,iC,iD),(iE,iF,iG),iH,(Ax,nx,cx)] 139:=ae XD ahZ;have S27:w7.drew.heap[w.heap.size+1+1]?=Zc #[.map (some (w.heap.size+1))] 191:=ae (bF Uz H4 zO) ahZ;have S47:w7.drew.heap[w.heap.size+1+1+1+1]?=Zc #[.map (some (w.heap.size+1+1+1))] 122:=ae (bF HY4 H4 zO) ahZ;have nT2:¬T' (w.heap.size+1+1):=λhT=>(by have:=(h7.tz _ hT).1;omega);have nT4:¬T' (w.heap.size+1+1+1+1):=λhT=>(by have:=(h7.tz _ hT).1;omega);have nT6:¬T' (w.heap.size+1+1+1+1+1+1):=λhT=>(by have:=(h7.tz _ hT).1;omega);have nTk:¬T' kb:=λhT=>(h7.tz _ hT).2.1 rfl
   have nTx:¬T' W.heap.size:=λhT=>by
    obtain⟨cs,h⟩:=(h7.tz _ hT).2.2;rw[XY] at h;simp at h
   clear x0 x1 x2 x3 x4 x5 x6 x7 x8 x9 yM yN x12 x13 d1;obtain⟨x0,-⟩:=KA XY;have z2:=aO S27;have z5:=aO h7.cell;have z6:=aO h7.kc;have hHeld:w7.drew.cell? (w.heap.size+1+1,0)=some (.map (some (w.heap.size+1)))/\w7.drew.cell? W=y.dst/\w7.drew.cell? (w.heap.size+1+1+1+1+1+1,0)=(A2,n2,c2)/\w7.drew.cell? kb=k/\w7.drew.cell? (sb2,k)=s/\(Instr.lookup 191 (.map (some (w.heap.size+1))) y.dst false).run prog w7.drew= .ok (A3,n3,c3) w7.drew:=⟨z2,x0,z5,z6,XX,pg _ rfl⟩
   have hC8:w8.cell? (w.heap.size+1+1,0)=some (.map (some (w.heap.size+1)))/\w8.cell? W=y.dst/\w8.cell? (w.heap.size+1+1+1+1+1+1,0)=(A2,n2,c2)/\w8.cell? kb=k/\w8.cell? (sb2,k)=s/\(Instr.lookup 191 (.map (some (w.heap.size+1))) y.dst false).run prog w8= .ok (A3,n3,c3) w8:=by
    have e:∀(q o:Nat),q<w7.drew.heap.size->w8.cell? (q,o)=w7.drew.cell? (q,o):=λq o hq=>ZS (b8 q hq);exact⟨(e _ _ (aC S27)).trans z2,(e _ _ (aC XY)).trans x0,(e _ _ (aC h7.cell)).trans z5,(e _ _ (aC h7.kc)).trans z6,(e _ _ (aC adP)).trans XX,pg _ (b8 _ h7.back.lt)⟩
   have hC9:w9.cell? (w.heap.size+1+1,0)=some (.map (some (w.heap.size+1)))/\w9.cell? W=y.dst/\w9.cell? (w.heap.size+1+1+1+1+1+1,0)=(A2,n2,c2)/\w9.cell? kb=k/\w9.cell? (sb2,k)=s/\(Instr.lookup 191 (.map (some (w.heap.size+1))) y.dst false).run prog w9= .ok (A3,n3,c3) w9:=by
    have e:∀(q o:Nat),q<w7.drew.heap.size->¬T' q->w9.cell? (q,o)=w7.drew.cell? (q,o):=λq o hq hn=>ZS (b9 q hq hn);exact⟨(e _ _ (aC S27) nT2).trans z2,(e _ _ (aC XY) nTx).trans x0,(e _ _ (aC h7.cell) nT6).trans z5,(e _ _ (aC h7.kc) nTk).trans z6,(e _ _ (aC adP) nTb).trans XX,pg _ (b9 _ h7.back.lt (λhT=>(h7.zz _ (h7.tz _ hT).1).1 rfl))⟩
   have aB7:=(Sm _ (aC XY) nTx (by have:=h7.back.lt;intro e;rw[e] at XY;have h:=h7.back;obtain⟨L,hL,-⟩:=h;unfold gQ at hL;rw[XY] at hL;simp[Ag] at hL)).trans XY;have aB8:=(Sm _ (aC S47) nT4 zO).trans S47
   have aqa:Kept (λq=>(w.heap.size<=q/\q<wr.heap.size)\/w4.heap.size+2<=q) W2 oH:=(Qh eP).trans (fE ⟨zy.os,zy.tape,zy.output,zy.size,zy.block⟩ λq hq=>by
    rcases hq with hq | rfl
    ·have:=(h7.tz q hq).1;omega
    exact .inl zO)
   have aqb:Kept (λq=>q=w.heap.size+1\/q=w.heap.size+1+1+1\/q=w.heap.size+1+1+1+1+1\/q=w.heap.size+1+1+1+1+1+1\/q=w.heap.size+1+1+1+1+1+1+1\/w1.heap.size<=q) w1 oH:=(H4.trans (Qh eP)).trans (fE ⟨zy.os,zy.tape,zy.output,zy.size,zy.block⟩ λq hq=>by
    rcases hq with hq | rfl
    ·have:=(h7.tz q hq).1;omega
    exact .inl rfl)
   have hd7:ji ds w7.drew:=(H5.below ahZ)
   have amk:ji ds oH:=hd7.keep λD hD=>Sm D (aC (hd7.2 D hD)) (λhT=>by
    obtain⟨cs,h⟩:=(h7.tz _ hT).2.2
    exact hd7.ne h D hD rfl) (λe=>by
    obtain⟨L,hL,-⟩:=h7.back;have h:=hd7.2 D hD;rw[e] at h;unfold gQ at hL;rw[h] at hL
    simp[Ag] at hL)
   have wS:oq m s st1 y=⟨if y.dst∈st1.list then st1.list else st1.list++[y.dst],QI y.dst s st1.back⟩:=(by unfold oq;rw[HSV.out];rfl);obtain⟨XZ,LC,ah0,aqc,anH,ah1,axV⟩:=zJ7 wS auw aqa aqb amk aB7 aB8;clear wS auw aqa aqb amk b8 b9 Sm zy nT2 nT4 nT6 nTk nTx nTb XY S27 S47 h7 hd7 auy adP pg x0 z2 z5 z6 XX;refine lF.start (λV=>V.cell? (w.heap.size+1+1,0)=some (.map (some (w.heap.size+1)))/\V.cell? W=y.dst/\V.cell? (w.heap.size+1+1+1+1+1+1,0)=(A2,n2,c2)/\V.cell? kb=k/\V.cell? (sb2,k)=s/\(Instr.lookup 191 (.map (some (w.heap.size+1))) y.dst false).run prog V= .ok (A3,n3,c3) V) 13 zK ?_;refine lF.tk 0 13 [] hHeld ?_;refine lF.tk 1 13 [] hHeld ?_;refine lF.tk 2 13 [] hHeld ?_;refine lF.tk 3 13 [] hHeld ?_;refine lF.tk 4 13 [] hHeld ?_;refine lF.tk 5 13 [] hHeld ?_;refine lF.tk 6 13 [] hHeld ?_;refine lF.tk 7 13 [] hHeld ?_;refine lF.tk 8 13 [] hHeld ?_;refine lF.tk 9 13 [] hHeld ?_;refine lF.tk 10 13 [] hHeld ?_;refine lF.one (i:=11) zK (aB rfl) (λK hK=>?_);go_simp;refine di hK (λ_=>hC8) ?_;clear hK K;refine lF.one (i:=12) zK (aB rfl) (λK hK=>?_);refine Jn (.tmp 43) (.tmp 48) 58 rfl zL rfl rfl Bq ?_;refine di hK (λ_=>hC9) ?_;clear hK K;refine lF.one (i:=13) zK (aB rfl) (λK hK=>?_);go_simp;refine iW hK ?_;clear hK K;refine lF.done zK ?_ _;clear hC8 hC9 hHeld Bq anG auz Kt;have z4:=aO axV;obtain⟨x0,-⟩:=KA ah1;by_cases oO:y.dst∈st1.list
   ·have YW:=LC.mark.look y.dst;rw[decide_eq_true oO] at YW;gi_wp2;refine⟨ah0,?_⟩;rw[He.out];refine⟨(A2,n2,c2),?a0F,?hh,aqc,anH⟩
    case hh=>
     rw[anF.out,XZ.out,j6 oO];exact LC
   have YW:=LC.mark.look y.dst;rw[decide_eq_false oO] at YW;obtain⟨KI,aIu,adQ,anI,aCb,auC⟩:=LC.see y.dst;obtain⟨KJ,aCc⟩:=zF (KI.alloc (Zc #[y.dst] 3));have aIv:W2.heap.size<=KI.heap.size:=(by have:=ah0.size;omega);obtain⟨v13,wB,aqd,anJ,ah2,anK,jX⟩:=adQ.add y.dst aB5 zO (λq hq=>⟨.inr zO,.inr zO⟩) aCc;obtain⟨A13,c13,rfl⟩:=ah2.own.form;obtain⟨n13,auF⟩:=zF ((st1.list++[y.dst]).length);rw[auF] at aqd ah2 anK;have z5:=aO adQ.cell;have auG:=(anI _ (by intro e;have h:=LC.mark;obtain⟨L,hL,-⟩:=h;unfold gQ at hL;rw[<-e,ah1.out] at hL;simp[Ag] at hL)).trans ah1.out;obtain⟨x0',-⟩:=KA auG;have SK:=aO anJ;have f13:=k8 wB (w.heap.size+1+1+1+1+1+1) 0 _ _ anJ
   have adR:ji ds KI:=anH.keep λD hD=>anI D (λe=>by
    obtain⟨L,hL,-⟩:=LC.mark;have h:=anH.2 D hD;rw[e] at h;unfold gQ at hL;rw[h] at hL
    simp[Ag] at hL)
   have hdF:ji ds (wB.setCell (w.heap.size+1+1+1+1+1+1,0) (A13,n13,c13)):=by
    refine (adR.keep λD hD=>?_:ji ds wB).keep λD hD=>gq (λe=>?_)
    ·refine jX D (aC (adR.2 D hD)) (λe=>?_);obtain⟨cs,h⟩:=adQ.own.bC e;exact adR.ne h D hD rfl
    have h:=adR.2 D hD;rw[e,adQ.cell] at h;cases h
   obtain⟨aCd,auH,aCe,vC⟩:=zJ4 ah2 anK hdF auC;clear ah2 anK hdF auC adQ anI auF anJ auG jX adR aCb
   gi_wp2_with (refine XT ?_;refine zt rfl (.tmp 58) (.tmp 61) 58 rfl rfl rfl aqd ?_)
   have xm:Kept (λq=>(w.heap.size<=q/\q<wr.heap.size)\/w4.heap.size+2<=q) W2 (wB.setCell (w.heap.size+1+1+1+1+1+1,0) (A13,n13,c13)):=(ah0.trans (fE vC λq hq=>.inl zO)).trans (fE auH λq hq=>by
    rcases hq with hq | rfl
    ·have h1:(λq=>(q=w.heap.size+1+1+1+1+1\/w1.heap.size<=q)/\(q<wr.heap.size\/w4.heap.size+2<=q)) q:=hq;omega
    exact .inl zO)
   refine⟨xm,?_⟩;rw[He.out];refine⟨(A13,n13,c13),?a0F,?hh,?hk,aCe⟩
   case hh=>
    rw[anF.out,XZ.out,j5 oO];exact aCd
   case hk=>
    refine (aqc.trans (fE vC λq hq=>.inr (.inl hq))).trans (fE auH λq hq=>?_)
    rcases hq with hq | rfl
    ·have h1:(λq=>(q=w.heap.size+1+1+1+1+1\/w1.heap.size<=q)/\(q<wr.heap.size\/w4.heap.size+2<=q)) q:=hq;omega
    exact .inr (.inr (.inr (.inl rfl)))
  case done=>
   intro xs W hxs hI3 hK;subst hxs;rw[He.out] at hI3;obtain⟨v',T',O3,h4,h5⟩:=hI3;have e4:=HE4.out
   have XL:ji (w4.heap.size::ds) W:=⟨List.nodup_cons.2 ⟨λh=>by have:=aC (zY.2 _ h);omega,h5.1⟩,λD hD=>by
    rcases TT.1 hD with rfl | hD
    ·exact hK
    exact h5.2 D hD⟩
   obtain⟨wk,hwk,aSn,hsk,jB⟩:=af W (Zc #[k] 3);have c6:=aO O3.kc;have ck:=aO aSn;have fk:=k8 wk W 0 _ _ aSn;have hwi:IntKind.i64.wrap ((k:Int)+1)=(k:Int)+1:=(by have:=FZ.out;rw[IntKind.wrap_i64];omega);have s1W:w1.heap.size<=W.heap.size:=h4.size;have FN:Kept (λq=>q=w.heap.size+1\/q=w.heap.size+1+1+1\/q=w.heap.size+1+1+1+1+1\/q=w.heap.size+1+1+1+1+1+1\/q=w.heap.size+1+1+1+1+1+1+1\/w1.heap.size<=q) w1 (wk.setCell W ((k:Int)+1:Int)):=(h4.trans (Qh jB)).setCell (p:=W) (.inr s1W) _;have kV:=(O3.auo (Z':=(λq=>q=w.heap.size+1+1+1+1+1\/w1.heap.size<=q)) (λq hq _=>hq.1) (λq hq=>by omega)).aB2 (W':=wk.setCell W ((k:Int)+1:Int)) (kb':=W) (k':=k+1) zS1 (λq hq=>(gq zO).trans (jB.block q hq)) (by have:=bD (v:=((k:Int)+1:Int)) aSn;simpa using this) (zR _);have hdk:ji (w4.heap.size::ds) (wk.setCell W ((k:Int)+1:Int)):=(XL.below jB).keep λD hD=>gq (by have:=aC (XL.2 D hD);omega);have anL:=UU.next jr wu yD;rw[<-BR.out] at anL;obtain⟨Sr,xy,HDK,ah3⟩:=zJ4 FN kV hdk anL;clear FN kV hdk anL O3 h4 h5 XL hK aSn;clear e4;(try simp only[Exit.inBlock,Exit.then]);gi_wp2;have e4:=HE4.out;refine⟨k+1,?_,?_⟩
   ·rw[HI1.out];refine⟨_,_,_,_,_,_,_,_,_,_,_,_,_,_,_,_,_,_,_,_,_,_,_,_,_,_,_,_,_,_,_,_,_,_,_,_,_,_,_,_,_,_,_,_,_,_,w4.heap.size::ds,W,_,v',T',⟨ah3,xy,.inr s1W,Sr,HDK,λD hD=>?_⟩,rfl⟩
    rcases TT.1 hD with rfl | hD
    ·omega
    exact Ot D hD
   have:=FZ.out;omega
 obtain rfl:k=n:=zO;have jV:=zT2 (k<k);have bZ:=oV.stop hn.symm;subst bZ;have L8:=@run_makeMap prog;obtain⟨qi,auJ,S20,aCf,Gu⟩:=af wr (.map #[] 0);have e20:qi.heap.size=wr.heap.size+1:=(by rw[<-auJ];simp);have c5b:=aO (ae jb.cell Gu);have vX:qU m (k*300000) (gB m):=oV.ok;have aqe:Bw w qi:=(ai.trans (eF.below zO zO)).trans (Gu.mono zO);have alb:=jb.below Gu;have jl:k<=4297:=zO;have aIw:kb<wr.heap.size:=aC jb.kc;obtain⟨Ee,YX,aqf,Bc,HR0,Ff,X0⟩:=zK7 (zH vX) (zH S20) (zH aqe) (zH alb) (zH (ae r0 Gu)) (zH (ae r2 Gu)) (zH (FU.below Gu));obtain⟨wo,X3⟩:=zE wr;subst X3;clear oV S20 Gu aqe vX r0 r2 r4 y0 y2 y4 ai jb alb eF FU Oq hn XU c1 HY0 Uz HY4;clear anD pW zY UU;gi_wp2
 gi_loopw [9,67] (λs9 s67 W=>∃i:Nat,i<=k/\s67= i/\xG W qi wo (((gB m).list.take i).filter (wH m)) (((gB m).list.take i).filter (wH m)) s9/\Kept (λq=>q=wo.heap.size\/qi.heap.size<=q) qi W)
  (λ_ s67 _=>k - (intOf s67).toNat)
 case atStart=>exact⟨0,zO,rfl,⟨ax.nil _ _ _ _ _,jY.new YX,zO⟩,Kept.refl _ _⟩
 obtain⟨i,hi,rfl,ve,pz⟩:=hrel;obtain⟨A9,c9,rfl⟩:=ve.own.form;obtain⟨n9,GV⟩:=zF ((((gB m).list.take i).filter (wH m)).length)
 have aCg:n9<1000000000000:=by
  obtain⟨h1,h2,h3⟩:=zK3 (List.length_filter_le (wH m) ((gB m).list.take i)) (List.length_take_le i (gB m).list) FZ.out;omega
 rw[GV] at ve ⊢;have q1:=bF HR0 pz zO;have c1:=aO q1;have s2r:qi.heap.size<=wr.heap.size:=pz.size;have aH:Bw w wr:=aqf.trans (pz.below zO zO);by_cases aN:i<k
 ·have gJ:=zT1 (i<k)
  have aqh:ax wr w 3 1 aV (gB m).list (A,k,c):=Bc.own.bu λq hq=>pz.block q (Bc.own.block_lt hq).2 (by
   have h1:=(Bc.vz q hq).1;have h2:=(Bc.own.block_lt hq).2
   have h3:q≠wo.heap.size:=λe=>by
    obtain⟨cs,h4⟩:=Bc.own.bC hq;rw[e,YX.out] at h4;cases h4
   omega)
  obtain⟨sb,s,yD,-,-,jw,dO⟩:=aqh.abr HN aN;have auL:jv m s:=Ee.ok s (List.mem_of_getElem? yD);have Su:=aat m B bm s wr (HM.below (aH.mono hB)) zO (auL.ok jr).2;obtain⟨fv,lh⟩:=zF (wH m s);rw[lh] at Su
  have jC:(((gB m).list.take (i+1)).filter (wH m))=(((gB m).list.take i).filter (wH m))++(if fv=true then [s] else []):=by
   rw[List.take_add_one,yD.out,Option.toList_some,List.filter_append,<-lh]
   congr 1
   simp only[List.filter_cons,List.filter_nil]
  obtain⟨ah4,jE,MI,qV,HN9⟩:=zJ5 Su ve pz jC GV;clear Su ve pz jC aqh GV q1 aH auL lh;cases fv
  ·gi_wp2_with (refine⟨trivial,?_⟩;gi_at_call 126;refine (t6.2 ah4).mono ?_;rintro e w7 ⟨rfl,eP⟩)
   go_roundw
   case rel=>exact⟨i+1,zO,by go_num,by rw[qV.out];simpa using jE.below eP,MI.trans (Qh eP)⟩
   simp[intOf];omega
  gi_wp2_with (first
   | (refine⟨trivial,?_⟩;gi_at_call 126;refine (t6.2 ah4).mono ?_
      rintro e w7 ⟨rfl,eP⟩;have hs7:wr.heap.size<=w7.heap.size:=eP.size;obtain⟨w8,Kt⟩:=zF (w7.alloc (Zc #[s] 3));obtain⟨v9,w9,oH,Bq,anG,X4,zy⟩:=(jE.below eP).push s (by rw[HN9.out];exact aCg) zO Kt;obtain⟨ah5,anM,YF,oQ⟩:=zJ4 X4 zy Bq eP
      clear X4 zy Bq eP)
   | (refine XT ?_;refine zt rfl (.tmp 76) (.tmp 78) 58 rfl rfl rfl YF ?_))
  go_roundw
  case rel=>exact⟨i+1,zO,by go_num,by rw[qV.out];simpa using ah5.out,(MI.trans (Qh oQ)).trans anM⟩
  simp[intOf];omega
 obtain rfl:k=i:=zO;have gJ:=zT2 (k<k);have jo:(gB m).list.take k=(gB m).list:=l8 (by rw[HN.out];exact zR _);rw[jo] at ve GV;have bZ:=OC.start m Ee;obtain⟨fl,uw⟩:=zF ((gB m).list.filter (wH m));rw[uw] at ve GV bZ;obtain⟨jE,MI,sV,HQ1⟩:=zJ4 ve pz bZ q1;clear ve pz bZ q1 GV uw c1 c5 c6 c5b aH jo;obtain⟨wp,hwp⟩:=zE wr;subst hwp;gi_wp2
 gi_loopw [9] (λs9 W=>∃d,Lv3 m qi wo qi d s9 W) (λs9 W=>adK (λd=>Lv3 m qi wo qi d s9 W))
 case atStart=>exact⟨_,0,(fl,fl),rfl,sV,jE,MI⟩
 obtain⟨j,st,sZ,hdr,ve,pz⟩:=ak6 hrel;obtain⟨A9,c9,rfl⟩:=ve.own.form;obtain⟨n9,GV⟩:=zF st.2.length;have UW:st.1.length<=4297:=zT (hdr.ok.size Ee) FZ;have hdl:=hdr.len;rw[GV] at ve hdl sZ ⊢;obtain⟨IX,HD3,HDR,HN9⟩:=zK4 (hdr.ok.size Ee) (zH sZ) (zH hdr) (zH GV);have s2r:qi.heap.size<=wr.heap.size:=pz.size;clear hrel sZ hdr GV;by_cases h0:n9=0
 ·subst h0;have gJ:decide ((0:Int)<((0:Nat):Int))=false:=zD;have DK:st.1=aao m:=HDR.stop Ee (g9 HN9);have kV:jY wr wo (aao m):=(by rw[<-DK];exact ve.mark)
  have FU:ji ds wr:=X0.keep λD hD=>pz.block D (aC (X0.2 D hD)) (by
   have h1:=aC (X0.2 D hD)
   have h2:D≠wo.heap.size:=λe=>by
       have h:=X0.2 D hD;rw[e,YX.out] at h;cases h
   omega)
  have aH:Bw w wr:=aqf.trans (pz.below zO zO);obtain⟨xy,aCh,nG⟩:=zJ3 kV FU aH;clear ve pz kV FU aH DK;gi_wp2;refine qc ds wr aCh λw6 uX=>?_
  have AX:wo.heap.size ∉ ds:=λhD=>by
   have h:=X0.2 _ hD;rw[YX.out] at h;cases h
  refine⟨.map (some wo.heap.size),by simp[results,results73,go_sem],wo,rfl,xy.keep (uX.block _ xy.lt AX),zO,nG.trans (uX.below zO λq hq hD=>?_)⟩;have:=Ot q hD;omega
 obtain⟨q9,rfl⟩:∃q,n9=q+1:=⟨n9 - 1,zO⟩;have gJ:decide ((0:Int)<((q9+1:Nat):Int))=true:=zS4;have hw9:IntKind.i64.wrap (((q9+1:Nat):Int) - 1)=(q9:Int):=zS3;obtain⟨sb,s,yD,-,-,jw,dO⟩:=ve.own.abr HN9 (Nat.lt_succ_self q9);have zV:st.2.getLast?=s:=(by rw[List.getLast?_eq_getElem?,HN9.out];exact yD);have anN:=ve.pop HN9 (Nat.succ_pos _);rw[Nat.add_sub_cancel] at anN;obtain⟨_,_,aqi,-,Yw,-⟩:=ve.own.row jd zD;simp only[i6] at aqi;obtain⟨rfl,-,rfl⟩:=aqi;rw[HN9.out] at Yw;have Ky:=zH (HDR.next Ee zV)
 have jB:wr.heap[w.heap.size+1]?=qi.heap[w.heap.size+1]?:=pz.block _ Bc.back.lt (by
  have h1:=Bc.back.lt;have h2:w.heap.size+1≠wo.heap.size:=zO
  omega)
 have aqj:qh wr w T (w.heap.size+1) (gB m).back:=Bc.back.keep λq hq=>by
  rcases hq with hq | rfl
  ·obtain⟨h1,h2,cs,h3⟩:=Bc.tz q hq;refine pz.block q (aC h3) (λe=>?_);have h4:=aC h3;have h5:q≠wo.heap.size:=λe=>(by rw[e,YX.out] at h3;cases h3);omega
  exact jB
 obtain⟨A10,c10,pg,aI,htt⟩:=aqj.ap5 s;replace pg:=pg wr rfl;obtain⟨n10,LD⟩:=zF ((fZ s (gB m).back).length);rw[LD] at pg aI htt
 have aHr:n10<2000000000:=by
  rw[<-LD];have h1:=Ee.len s;have h2:k*300000<=4297*300000:=Nat.mul_le_mul_right _ jl;omega
 obtain⟨y2,aCi,lM,HTT,auO,ah6⟩:=zK6 (aO (bF Ff pz zO)) (zH anN) (zH aI) (zH htt) (zH pz) (zH LD);clear anN aI htt pz LD aqj jB ve zV;obtain⟨wq,hwq⟩:=zE wr;subst hwq;gi_wp2
 gi_loopw [9,99] (λs9 s99 W=>∃i:Nat,i<=n10/\s99= i/\xG W qi wo (((fZ s (gB m).back).take i).foldl lU (st.1,st.2.dropLast)).1 (((fZ s (gB m).back).take i).foldl lU (st.1,st.2.dropLast)).2 s9/\Kept (λq=>q=wo.heap.size\/qi.heap.size<=q) qi W) (λ_ s99 _=>n10 - (intOf s99).toNat)
 case atStart=>exact⟨0,zO,rfl,aCi,auO⟩
 obtain⟨i,hi,rfl,ve,pz⟩:=hrel;obtain⟨A11,c11,rfl⟩:=ve.own.form;obtain⟨n11,YY⟩:=zF ((((fZ s (gB m).back).take i).foldl lU (st.1,st.2.dropLast)).2.length);rw[YY] at ve ⊢;have yP:∀t∈fZ s (gB m).back,t∈(gB m).list:=λt ht=>Ee.back s t ht;have hdo:EP (gB m).list (((fZ s (gB m).back).take i).foldl lU (st.1,st.2.dropLast)):=EP.fold _ ⟨HDR.ok.nd,HDR.ok.sub,λx hx=>HDR.ok.stk x (List.dropLast_subset _ hx)⟩ (λt ht=>yP t (List.mem_of_mem_take ht));have aqk:j+1+(((fZ s (gB m).back).take i).foldl lU (st.1,st.2.dropLast)).2.length=(((fZ s (gB m).back).take i).foldl lU (st.1,st.2.dropLast)).1.length:=OB _ (by rw[List.length_dropLast,HN9.out];dsimp only;omega);have oW:=hdo.size Ee;have axW:n11<1000000000000:=(by have:=FZ.out;omega);have s2r:qi.heap.size<=wr.heap.size:=pz.size;by_cases aN:i<n10
 ·have jc:=zT1 (i<n10)
  have aI:ax wr w 3 1 aV (fZ s (gB m).back) (A10,n10,c10):=lM.bu λq hq=>by
   obtain⟨h1,h2,cs,h3⟩:=Bc.tz q (HTT q hq);have h4:=aC h3;have h5:q≠wo.heap.size:=λe=>(by rw[e,YX.out] at h3;cases h3);exact(pz.block q h4 zO).trans (auO.block q h4 zO).symm
  obtain⟨sb',t,HTX,-,-,aGr,aB3⟩:=aI.abr ah6 aN
  have jC:((fZ s (gB m).back).take (i+1)).foldl lU (st.1,st.2.dropLast)=lU (((fZ s (gB m).back).take i).foldl lU (st.1,st.2.dropLast)) t:=by
   rw[List.take_add_one,HTX.out,Option.toList_some,List.foldl_append];rfl
  obtain⟨o2,rO⟩:=zF (((fZ s (gB m).back).take i).foldl lU (st.1,st.2.dropLast));rw[rO] at ve jC YY;obtain⟨YW,jE,MI,qV,aCj⟩:=zK5 (ve.mark.look t) (zH ve) (zH pz) (zH jC) (zH YY);clear ve pz jC YY aI hdo aqk oW yP rO;by_cases oO:t∈o2.1
  ·rw[decide_eq_true oO] at YW;gi_wp2;go_roundw
   case rel=>exact⟨i+1,zO,by go_num,by rw[qV.out];unfold lU;rw[j6 oO];exact jE,MI.out⟩
   simp[intOf];omega
  rw[decide_eq_false oO] at YW;obtain⟨w8,Kt⟩:=zF (wr.alloc (Zc #[t] 3));obtain⟨v9,w9,oH,Bq,anG,X4,zy⟩:=jE.push t (by rw[aCj.out];exact axW) zO Kt;obtain⟨ah5,anM,YF⟩:=zJ3 X4 zy Bq;clear X4 zy Bq
  gi_wp2_with (refine XT ?_;refine zt rfl (.tmp 109) (.tmp 111) 58 rfl rfl rfl YF ?_)
  go_roundw
  case rel=>exact⟨i+1,zO,by go_num,by rw[qV.out];unfold lU;rw[j5 oO];exact ah5,MI.trans anM⟩
  simp[intOf];omega
 obtain rfl:n10=i:=zO;have jc:=zT2 (n10<n10);have jo:(fZ s (gB m).back).take n10=fZ s (gB m).back:=l8 (by rw[ah6.out];exact zR _);rw[jo] at ve YY;obtain⟨jE,MI⟩:=zJ2 ve pz;have xu:j<uf m:=zO;clear ve pz hdo aqk oW yP jo YY;gi_wp2;go_roundw
 case rel=>exact⟨_,j+1,_,rfl,Ky,jE,MI⟩
 refine Qe (ak5 ⟨j+1,_,rfl,Ky,jE,MI⟩) ?_;rw[<-HD3.out];omega
end
