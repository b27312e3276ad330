import Derived.Test.YtgmnnegfndpakaaGreatDoorG26
set_option maxHeartbeats 20000000
set_option maxRecDepth 100000
namespace Go.Proofs.YtgmnnegfndpakaaGreatDoor
open Go.RowKit
theorem ae8(p:aJ)(Md:p.kind=4)(zV:oz p.args=true)(hn:dh p<=40)(hc:ja p<=200)(ht:∀x∈p.args,Mc x):QW p:=by
 intro num cs w base bm T hd pl pv rs hM hr hF hlen lQ;have hle:=hM.le
 have Dc:dh p=1+dZ p.args:=by obtain⟨k',nI,mx',uo,c',pr',args'⟩:=p;rw[dh];rfl
 have Rj:ja p=kF p.args:=by unfold ja;rw[Md];simp[fD]
 obtain⟨tot,Vu⟩:=zF (ja p);rw[Vu] at hlen hc Rj;have aBy:=zH Vu;clear Vu;obtain⟨args,wF⟩:=zF p.args
 have hOP:kL p num pl=pI false args (num+1) pl ⟨[],[],false⟩:=by
  rw[<-wF];obtain⟨k',nI,mx',uo,c',pr',args'⟩:=p;have e:k'=4:=Md;subst e;rw[kL,if_neg zD];rfl
 obtain⟨R,hR⟩:=zF (kL p num pl);rw[hR] at hOP ⊢;obtain⟨k,mn,mx,el,ck,ns,nl,sp,A1,n1,c1,A2,n2,c2,pr,A,n,c,rfl,hk,-,-,-,-,-,JC,aI⟩:=aW hr;rw[Md] at hk;subst hk;rw[wF] at aI zV ht Rj Dc
 have Pn:n=args.length:=by have:=aI.1;rwa [z8] at this
 obtain⟨w1,bI,S1,S2,nC,ai⟩:=ed w (.cells #[.int .i64 4,.int .i64 mn,.int .i64 mx,.int .i64 el,.int .i64 ck,.string ns,.string nl,.string sp,.slice A1 n1 c1,.slice A2 n2 c2,.int .i64 pr,.slice A n c] 29) (.cells #[.slice none 0 0,.slice none 0 0,.bool false] 171)
 have e1:w1.heap.size=w.heap.size+2:=by rw[<-bI];simp
 have HC:Hid (Rt 114 #[.agg (o5 4 mn mx el ck ns nl sp A1 n1 c1 A2 n2 c2 pr A n c)] w1 (.bool false)):=zH (by
  have h:=ND p _ w1 _ (hr.below (ai.mono hle))
  rwa [Md] at h)
 have q0:=aj S1;have Po:Hid (NY pl false args tot (num+dh p) R 0 (num+1) (pl,⟨[],[],false⟩)):=zH ⟨hOP.symm,⟨_,Made.never pl⟩,⟨0,(Bd.nil pl false).up zO,by rw[List.drop_zero,<-Rj];omega⟩,by rw[List.drop_zero,Dc];omega⟩;have aQ:=zH S1;have gY:=zH S2;have HM:=zH hM;have HF:=zH hF;have lM:=zH aI;have HNA:=zH Pn;have HGL:=zH zV;have HT:=zH ht;have HNP:=zH Dc;have Xe:=zH Rj;clear S1 S2 hM hr hF hOP hR aI Pn zV ht Dc Rj wF;have hk0:((4:Int)==3)=false:=rfl;go_enter Tryz.func167,Tryz.ntmps167;go_wp2_with fail;refine HC.out.mono ?_;rintro e w2 ⟨rfl,ag⟩;obtain⟨w0,GR,S0,hs0,uD⟩:=af w2 (.cells #[.slice none 0 0,.slice none 0 0,.bool false] 171);obtain⟨w3,vU⟩:=zF (((w0.setCell ⟨w2.heap.size,0,none⟩ (.slice none 0 0)).setCell ⟨w2.heap.size,1,none⟩ (.slice none 0 0)).setCell ⟨w2.heap.size,2,none⟩ (.bool false));have f00:=frozen_of_row w0 w2.heap.size 0 _ _ S0;have f01:=frozen_of_row w0 w2.heap.size 1 _ _ S0;have f02:=frozen_of_row w0 w2.heap.size 2 _ _ S0;have b00:=dJ S0
 have S3:w3.heap[w2.heap.size]?=some (.cells #[.slice none 0 0,.slice none 0 0,.bool false] 171):=by rw[<-vU];exact yT S0
 have e3:w3.heap.size=w2.heap.size+1:=by rw[<-vU,<-GR];simp[World.setCell]
 have su:w2.heap.size<w3.heap.size:=by omega
 have az:Bw w2 w3:=by rw[<-vU];exact((uD.setCell (p:=⟨w2.heap.size,0,none⟩) (zR _) _).setCell (p:=⟨w2.heap.size,1,none⟩) (zR _) _).setCell (p:=⟨w2.heap.size,2,none⟩) (zR _) _
 have jX:=ag.seq az;have uS:=ag.size;clear q0;have q0:=aj (ae aQ.out ag);obtain⟨z0,z1,z2,z3,z4,z5,z6,z7,z8,z9,nZ,og⟩:=aj (ae aQ.out jX);have vC:=zH S3;clear S3;have I4:=zH (HM.out.below (ai.seq jX))
 have hwr:IntKind.i64.wrap ((num:Int)+1)=(num:Int)+1:=by rw[IntKind.wrap_i64];omega
 have aBz:wrap64 ((num:Int)+1)=((num+1:Nat):Int):=by rw[CU zO zO];push_cast;rfl
 have acC:=zH lQ;have axQ:num<=999999:=Nat.le_of_lt_succ (Nat.lt_of_le_of_lt (Nat.le_add_right _ _) lQ);clear lQ;go_wp2_with fail
 go_loopw [2,49] (λs2 si wr=>∃(i m:Nat) (r:List aU×dR),i<=n/\si= .int .i64 i/\s2= .int .i64 m/\Hid (NY pl false args tot (num+dh p) R i m r)/\qL w3 base bm w2.heap.size T hd r wr)
  (λ_ si _=>n - (intOf si).toNat)
 case atStart=>exact⟨0,num+1,_,zO,rfl,by first | rfl | (simp[hwr];done) | go_num,Po,T,pv,rs,none,0,0,none,0,0,I4.out,λ_ h=>h,λ_ h=>.inl h,Kept.refl _ _,vC.out,ax.nil _ _ _ _ _,ax.nil _ _ _ _ _,λj hj=>(by cases hj),λj hj=>(by cases hj),λj hj=>(by cases hj)⟩
 case round=>
  clear q0 z0 z1 z2 z3 z4 z5 z6 z7 z8 z9 nZ og;obtain⟨i,m,r,hi,rfl,rfl,HI,T',pv',rs',B1,m1,d1,B2,m2,d2,tC,hT1,hT2,lH,h7,hS⟩:=hrel;have BP:∀q,T q->q<w.heap.size:=λq hq=>(HM.out.inT q hq).2
  have yZ:∀q,w.heap.size<=q->q<w3.heap.size->¬T' q:=λq h1 h2 h=>by
   rcases hT2 _ h with h | h
   ·have:=BP _ h;omega
   ·omega
  have s3:w3.heap.size<=wr.heap.size:=lH.size;have uh:wr.heap[w.heap.size]?=some (.cells #[.int .i64 4,.int .i64 mn,.int .i64 mx,.int .i64 el,.int .i64 ck,.string ns,.string nl,.string sp,.slice A1 n1 c1,.slice A2 n2 c2,.int .i64 pr,.slice A n c] 29):=(lH.block _ zO (by rintro (h | h);have:=BP _ h;omega;omega)).trans (ae aQ.out jX);have zW:wr.heap[w.heap.size+1]?=some (.cells #[.slice none 0 0,.slice none 0 0,.bool false] 171):=(lH.block _ zO (by rintro (h | h);have:=BP _ h;omega;omega)).trans (ae gY.out jX);have Dh:=zH uh;have HR6:=zH zW;obtain⟨be,jm⟩:=zF r.2.empty;rw[jm] at h7;obtain⟨s0,s1,s2⟩:=dJ h7;have q0:=aj uh;by_cases aN:i<n
  ·have jV:decide (i<n)=true:=by simp;omega
   have kK:bM wr (· <base) 12 (args.map aZ) A n:=lM.out.keep λb hb=>⟨hb,by
    rw[lH.block b zO (by rintro (h | h);have:=(HM.out.inT b h).1;omega;omega),(ai.seq jX).block b zO]⟩
   obtain⟨b,off,px,v0,v1,v2,v3,v4,v5,v6,v7,v8,v9,v10,v11,HX,eG,z0,z1,z2,z3,z4,z5,z6,z7,z8,z9,nZ,og,dO⟩:=kK.DW aN c;obtain⟨kx,gU,gz,gZ,ig,ik,iq,iw,iy,iC,iD,iE,iF,iG,iH,Ax,nx,cx,fJ,-⟩:=aW eG;simp only[List.cons.injEq,and_true] at fJ;obtain⟨rfl,rfl,rfl,rfl,rfl,rfl,rfl,rfl,rfl,rfl,rfl,rfl⟩:=fJ;have jb:px∈args:=z13 HX.out;have Ec:kR px=true:=Rh HGL.out jb;have xw:dh px<=dZ args:=Ri jb;have yC:lJ px<=kF args:=IM jb;have Dk:dh px<=40:=(by have:=HNP.out;omega);have KY:=HI.out.step HX.out Ec Dk hc;rw[if_neg zD] at KY;have HI2:=zH KY;clear KY;obtain⟨L,NZ⟩:=HI.out.made;obtain⟨nb,bP,jA⟩:=HI.out.bd;have N7:=HI.out.num;rw[Hu HX.out] at N7;rw[Rf HX.out] at jA;obtain⟨dq,Ja⟩:=zF (dh px);rw[Ja] at N7 HI2 Dk;have uU:tu r.1:=HF.out.made NZ bP zO;have UC:r.1.length+lJ px<=1000:=(by rw[bP.len];omega);obtain⟨wa,BK,SA,Vg,bJ⟩:=af wr (.cells #[.int .i64 kx,.int .i64 gU,.int .i64 gz,.int .i64 gZ,.int .i64 ig,.string ik,.string iq,.string iw,.slice iy iC iD,.slice iE iF iG,.int .i64 iH,.slice Ax nx cx] 29);have ea:wa.heap.size=wr.heap.size+1:=(by rw[<-BK];simp);have x0:=aj SA;have hMa:gV wa base T' bm hd r.1 pv' rs':=tC.below bJ;have hRa:au wa (· <base) (aZ px) [.int .i64 kx,.int .i64 gU,.int .i64 gz,.int .i64 gZ,.int .i64 ig,.string ik,.string iq,.string iw,.slice iy iC iD,.slice iE iF iG,.int .i64 iH,.slice Ax nx cx]:=eG.below (bJ.mono (by have:=tC.le;omega));have UE:m+dh px<1000000:=(by rw[Ja];exact Nat.lt_of_le_of_lt (zT (Nat.add_le_add_left (Nat.le_add_right dq _) m) N7) acC.out);have acD:m+dq<1000000000:=Nat.lt_of_lt_of_le (by rw[<-Ja];exact UE) zD
   obtain⟨tm,JZ⟩:=zF (fV px m r.1)
   have HCT:Hid (Calls Tryz.prog 124 #[.pointer (some ⟨bm,0,none⟩),.agg (o5 kx gU gz gZ ig ik iq iw iy iC iD iE iF iG iH Ax nx cx),.int .i64 m] wa (wP wa base bm T' hd tm)):=zH (by
    have h:=HT.out px jb m _ wa base bm T' hd r.1 pv' rs' hMa hRa uU UC UE
    rw[JZ] at h;exact h)
   have hyt:=xI Ec (by rw[Ja];exact Dk) m r.1;have xZ:=Ez Ec (by rw[Ja];exact Dk) (by have:=Xe.out;omega) m r.1;rw[JZ] at hyt xZ HI2;have hTo:∀q,T' q->base<=q/\q<wr.heap.size:=tC.inT;have HTO:=zH hTo;have HX0:=zH NZ;have Pq:=zH bP;have HYT:=zH hyt;have Q8:=zH xZ;have rM:=zH lH;have gW:=zH hT1;have fC:=zH hT2;have HS:=zH hS;have H7:=zH h7;have pO:=zH jm;have NV:=zH uU;have Df:=zH SA;have aBA:=zH JZ;have HDQ:=zH Ja;have Ph:=zH eG;have Ah:=zH yZ;clear hTo NZ bP hyt xZ lH hT1 hT2 hS h7 jm uU SA JZ Ja eG hMa hRa tC uh zW jb Ec yC kK yZ;go_wp2_with fail;refine HCT.out.mono ?_;rintro e w4 ⟨T2,JV,JW,vf,vl,rfl,hM2,CB,BJ,uA,hS2⟩;obtain⟨D9,I9⟩:=zF tm.2.empty;rw[I9];obtain⟨g1,lV⟩:=zF tm.2.first.length;obtain⟨g2,qo⟩:=zF tm.2.last.length;obtain⟨E1,f1,rfl⟩:=hS2.f.form;obtain⟨E2,f2,rfl⟩:=hS2.l.form;rw[lV,qo] at hS2 ⊢;have s4:wa.heap.size<=w4.heap.size:=uA.size;obtain⟨w5,pq,S5,IY,bg⟩:=af w4 (.cells #[.slice E1 g1 f1,.slice E2 g2 f2,.bool D9] 171);have e5:w5.heap.size=w4.heap.size+1:=(by rw[<-pq];simp);have Q5:∀q,T2 q->q<w4.heap.size:=λq h=>(hM2.inT q h).2;have lq:Kept T' wr w5:=((Kept.of_below bJ).up uA (λ_ h=>.inl h)).up (Kept.of_below bg (M:=λ_=>False)) (λ_ h=>h.elim);have hx5:w5.heap[wr.heap.size]?=some (.cells #[.int .i64 kx,.int .i64 gU,.int .i64 gz,.int .i64 gZ,.int .i64 ig,.string ik,.string iq,.string iw,.slice iy iC iD,.slice iE iF iG,.int .i64 iH,.slice Ax nx cx] 29):=(bg.block _ zO).trans ((uA.block _ zO (λh=>by have:=(HTO.out _ h).2;omega)).trans Df.out);clear x0;have x0:=aj hx5
   have HCS:Hid (Rt 211 #[.agg (o5 kx gU gz gZ ig ik iq iw iy iC iD iE iF iG iH Ax nx cx)] w5 (.int .i64 dq)):=zH (by
    have h:=size_any px _ w5 _ (Ph.out.keep (F':=λ_=>True) λb hb=>⟨trivial,lq.block b (by have:=HM.out.le;omega) (λh=>by have:=(HTO.out _ h).1;omega)⟩) (by rw[HDQ.out];exact Nat.lt_of_le_of_lt Dk zD)
    rw[HDQ.out] at h;exact h)
   have hwm:wrap64 ((m:Int)+(dq:Int))=((m+dq:Nat):Int):=QV acD;have hwi:IntKind.i64.wrap ((m:Int)+(dq:Int))=(m:Int)+(dq:Int):=Xi acD;have Rk:=zH lq;have vW:=zH S5;have uy:=zH hM2;have UD:=zH CB;have qZ:=zH BJ;have Ld:=zH hS2;have aBB:=zH Q5;have Vt:=zH I9;clear lq S5 hM2 CB BJ uA hS2 Q5 I9 hx5 lV qo;go_wp2_with fail;refine HCS.out.mono ?_;rintro e w6 ⟨rfl,dQ⟩;have s6:w5.heap.size<=w6.heap.size:=dQ.size;have uX:Kept T' wr w6:=Rk.out.up (Kept.of_below dQ (M:=λ_=>False)) (λ_ h=>h.elim);have h12:w6.heap[w.heap.size]?=some (.cells #[.int .i64 4,.int .i64 mn,.int .i64 mx,.int .i64 el,.int .i64 ck,.string ns,.string nl,.string sp,.slice A1 n1 c1,.slice A2 n2 c2,.int .i64 pr,.slice A n c] 29):=(uX.block _ zO (Ah.out _ zO zO)).trans Dh.out;have Le:w6.heap[w2.heap.size]?=some (.cells #[.slice B1 m1 d1,.slice B2 m2 d2,.bool be] 171):=(uX.block _ zO (Ah.out _ zO zO)).trans H7.out;have AP:=ae vW.out dQ;clear x0 q0 s0 s1 s2;have q0:=aj h12;obtain⟨s0,s1,s2⟩:=dJ Le;obtain⟨y0,y1,y2⟩:=dJ AP;have Z9:gV w6 base T2 bm hd tm.1 JV JW:=uy.out.below (bg.seq dQ)
   have GX:iT w6 base (λk=>w3.heap.size<=k/\¬T2 k/\k<wr.heap.size) r.2 (.slice B1 m1 d1) (.slice B2 m2 d2):=HS.out.keep λk aN hG=>⟨⟨hG.1,λh=>by
    rcases qZ.out _ h with h | h
    ·exact hG.2 h
    ·omega,aN⟩,uX.block k aN hG.2⟩
   have GY:iT w6 base (λk=>wa.heap.size<=k/\¬T2 k/\k<w4.heap.size) tm.2 (.slice E1 g1 f1) (.slice E2 g2 f2):=Ld.out.keep λk aN hG=>⟨⟨hG.1,hG.2,aN⟩,(bg.seq dQ).block k aN⟩;have ahu:r.2.first.length<=1000/\r.2.last.length<=1000/\tm.2.first.length<=1000/\tm.2.last.length<=1000:=⟨by have:=Pq.out.fl;omega,by have:=Pq.out.ll;omega,by have:=Q8.out.fl;omega,by have:=Q8.out.ll;omega⟩;have ahv:¬T w2.heap.size:=λh=>(by have:=BP _ h;omega);have Bq:=(ary w6.drew base _ _ r.2 tm.2 B1 B2 E1 E2 m1 d1 m2 d2 g1 f1 g2 f2 (GX.keep (G':=λk=>w3.heap.size<=k/\¬T2 k/\k<wr.heap.size) (w':=w6.drew) λk _ h=>⟨h,rfl⟩) (GY.keep (G':=λk=>wa.heap.size<=k/\¬T2 k/\k<w4.heap.size) (w':=w6.drew) λk _ h=>⟨h,rfl⟩) (λk h1 h2=>by omega) ahu (by show base<=w6.heap.size;omega) 58 58).1
   have Zk:∀q,(q<w3.heap.size\/wr.heap.size<=q)->¬((Value.slice B1 m1 d1).ownBlock=some q\/(Value.slice B2 m2 d2).ownBlock=some q):=λq h1 h2=>by
    have h3:w3.heap.size<=q/\¬T2 q/\q<wr.heap.size:=by
     rcases h2 with h | h
     ·exact GX.gf q h
     ·exact GX.gl q h
    omega
   have D5:∀fA fn fc wq,(Builtin.append_ #[58,58] 58 #[.slice B1 m1 d1,.slice E1 g1 f1]).run Tryz.prog w6.drew= .ok (.slice fA fn fc) wq->Kept (λk=>(Value.slice B1 m1 d1).ownBlock=some k\/(Value.slice B2 m2 d2).ownBlock=some k) w6 wq:=by
    intro fA fn fc wq h;obtain⟨_,_,_,wz,hz,-,hg,-⟩:=EF w6.drew base r.2.first tm.2.first B1 m1 d1 (GX.keep (G':=λ_=>True) (w':=w6.drew) λk _ h=>⟨trivial,rfl⟩).f E1 g1 f1 _ (GY.acg (wr:=w6.drew) λ_ _ _=>rfl) zO (by show base<=w6.heap.size;omega) 58;rw[hz] at h;obtain rfl:wz=wq:=(by injection h);exact⟨hg.os,hg.tape,hg.output,hg.size,λk hk hn=>hg.block k hk (λe=>hn (.inl e.symm))⟩
   have YF:=zH Bq;have Px:=zH Zk;have Xj:=zH D5;have HK6:=zH uX;have H76:=zH Le;have H10:=zH AP;have Eb:=zH Z9;have yD:=zH GX;have EY:Hid (w6.drew.cell? ⟨w2.heap.size,0,none⟩=some (.slice B1 m1 d1)/\w6.drew.cell? ⟨w2.heap.size,1,none⟩=some (.slice B2 m2 d2)/\w6.drew.cell? ⟨w2.heap.size,2,none⟩=some (.bool be)/\w6.drew.cell? ⟨w4.heap.size,0,none⟩=some (.slice E1 g1 f1)/\w6.drew.cell? ⟨w4.heap.size,1,none⟩=some (.slice E2 g2 f2)/\w6.drew.cell? ⟨w4.heap.size,2,none⟩=some (.bool D9)):=zH ⟨s0,s1,s2,y0,y1,y2⟩;clear Bq Zk D5 uX Le AP Z9 GX GY h12;cases be
   ·go_wp2_with fail
    refine ah.start (λW=>W.cell? ⟨w2.heap.size,0,none⟩=some (.slice B1 m1 d1)/\W.cell? ⟨w2.heap.size,1,none⟩=some (.slice B2 m2 d2)/\W.cell? ⟨w2.heap.size,2,none⟩=some (.bool false)/\W.cell? ⟨w4.heap.size,0,none⟩=some (.slice E1 g1 f1)/\W.cell? ⟨w4.heap.size,1,none⟩=some (.slice E2 g2 f2)/\W.cell? ⟨w4.heap.size,2,none⟩=some (.bool D9)) 17 zK ?_;have hHeld:=EY.out;refine ah.tk 0 hHeld ?_;refine ah.tk 1 hHeld ?_;refine ah.tk 2 hHeld ?_;refine ah.tk 3 hHeld ?_;refine ah.tk 5 hHeld ?_;refine ah.tk 6 hHeld ?_;refine ah.tk 7 hHeld ?_;refine ah.tk 8 hHeld ?_;refine ah.tk 10 hHeld ?_;refine ah.tk 11 hHeld ?_;obtain⟨F1,fn1,fc1,wq,F2,fn2,fc2,wb,NR,Xb,wQ⟩:=YF.out;have yw:Kept (λk=>(Value.slice B1 m1 d1).ownBlock=some k\/(Value.slice B2 m2 d2).ownBlock=some k) w6 wb:=⟨wQ.2.os,wQ.2.tape,wQ.2.output,wQ.2.size,wQ.2.block⟩;have D5:Kept (λk=>(Value.slice B1 m1 d1).ownBlock=some k\/(Value.slice B2 m2 d2).ownBlock=some k) w6 wq:=Xj.out _ _ _ _ NR;have k7:wb.heap[w2.heap.size]?=some (.cells #[.slice B1 m1 d1,.slice B2 m2 d2,.bool false] 171):=(yw.block _ zO (Px.out _ zO)).trans H76.out;have k10:wb.heap[w4.heap.size]?=some (.cells #[.slice E1 g1 f1,.slice E2 g2 f2,.bool D9] 171):=(yw.block _ zO (Px.out _ zO)).trans H10.out;have j7:wq.heap[w2.heap.size]?=some (.cells #[.slice B1 m1 d1,.slice B2 m2 d2,.bool false] 171):=(D5.block _ zO (Px.out _ zO)).trans H76.out;have j10:wq.heap[w4.heap.size]?=some (.cells #[.slice E1 g1 f1,.slice E2 g2 f2,.bool D9] 171):=(D5.block _ zO (Px.out _ zO)).trans H10.out
    obtain⟨a0,a1,a2⟩:=dJ j7;obtain⟨a3,a4,a5⟩:=dJ j10;obtain⟨b0,b1,b2⟩:=dJ k7;obtain⟨b3,b4,b5⟩:=dJ k10;have t0:=frozen_of_row wb w2.heap.size 0 _ _ k7;have t1:=frozen_of_row wb w2.heap.size 1 _ _ k7;have t2:=frozen_of_row wb w2.heap.size 2 _ _ k7;have HK7:=zH k7;have ahw:=zH wQ;clear j7 j10 k7 k10 yw D5 wQ hHeld;refine ah.on 4 λK hK=>?_;refine wM rfl (.tmp 69) (.tmp 71) 58 rfl rfl rfl NR ?_;refine di hK (λ_=>⟨a0,a1,a2,a3,a4,a5⟩) ?_;clear hK K;refine ah.on 9 λK hK=>?_;refine wM rfl (.tmp 74) (.tmp 76) 58 rfl rfl rfl Xb ?_;refine di hK (λ_=>⟨b0,b1,b2,b3,b4,b5⟩) ?_;clear hK K;have hHeld:wb.cell? ⟨w2.heap.size,0,none⟩=some (.slice B1 m1 d1)/\wb.cell? ⟨w2.heap.size,1,none⟩=some (.slice B2 m2 d2)/\wb.cell? ⟨w2.heap.size,2,none⟩=some (.bool false)/\wb.cell? ⟨w4.heap.size,0,none⟩=some (.slice E1 g1 f1)/\wb.cell? ⟨w4.heap.size,1,none⟩=some (.slice E2 g2 f2)/\wb.cell? ⟨w4.heap.size,2,none⟩=some (.bool D9):=⟨b0,b1,b2,b3,b4,b5⟩;refine ah.tk 12 hHeld ?_;refine ah.tk 13 hHeld ?_;refine ah.tk 14 hHeld ?_;refine ah.tk 15 hHeld ?_;refine ah.tk 16 hHeld ?_;refine ah.on 17 λK hK=>?_;go_simp;refine iW hK ?_;clear hK K;refine ah.dn ?_;go_wp2_with fail;go_roundw
    case rel=>
     refine⟨i+1,m+dq,(tm.1,⟨r.2.first++tm.2.first,r.2.last++tm.2.last,r.2.empty||tm.2.empty⟩),zO,by go_num,by first | rfl | (simp[hwm];done) | go_num,HI2,?_⟩
     have bZ:=qL.app (r:=r) (r2:=(tm.1,⟨r.2.first++tm.2.first,r.2.last++tm.2.last,r.2.empty||tm.2.empty⟩)) (t7:=w2.heap.size) gW.out fC.out rM.out su ahv zO UD.out (λk h=>by
      rcases qZ.out k h with h | h
      ·exact .inl h
      ·right;omega) HK6.out Eb.out yD.out (λk h=>⟨h.1,h.2.1⟩) ahw.out HK7.out
     rw[show (tm.1,(⟨r.2.first++tm.2.first,r.2.last++tm.2.last,r.2.empty||tm.2.empty⟩:dR)).2.empty=(false||D9) from by show (r.2.empty||tm.2.empty)=_;rw[pO.out,Vt.out]] at bZ;exact bZ
    case measure=>simp[intOf];omega
   ·go_wp2_with fail
    refine ah.start (λW=>W.cell? ⟨w2.heap.size,0,none⟩=some (.slice B1 m1 d1)/\W.cell? ⟨w2.heap.size,1,none⟩=some (.slice B2 m2 d2)/\W.cell? ⟨w2.heap.size,2,none⟩=some (.bool true)/\W.cell? ⟨w4.heap.size,0,none⟩=some (.slice E1 g1 f1)/\W.cell? ⟨w4.heap.size,1,none⟩=some (.slice E2 g2 f2)/\W.cell? ⟨w4.heap.size,2,none⟩=some (.bool D9)) 17 zK ?_;have hHeld:=EY.out;refine ah.tk 0 hHeld ?_;refine ah.tk 1 hHeld ?_;refine ah.tk 2 hHeld ?_;refine ah.tk 3 hHeld ?_;refine ah.tk 5 hHeld ?_;refine ah.tk 6 hHeld ?_;refine ah.tk 7 hHeld ?_;refine ah.tk 8 hHeld ?_;refine ah.tk 10 hHeld ?_;refine ah.tk 11 hHeld ?_;obtain⟨F1,fn1,fc1,wq,F2,fn2,fc2,wb,NR,Xb,wQ⟩:=YF.out;have yw:Kept (λk=>(Value.slice B1 m1 d1).ownBlock=some k\/(Value.slice B2 m2 d2).ownBlock=some k) w6 wb:=⟨wQ.2.os,wQ.2.tape,wQ.2.output,wQ.2.size,wQ.2.block⟩;have D5:Kept (λk=>(Value.slice B1 m1 d1).ownBlock=some k\/(Value.slice B2 m2 d2).ownBlock=some k) w6 wq:=Xj.out _ _ _ _ NR;have k7:wb.heap[w2.heap.size]?=some (.cells #[.slice B1 m1 d1,.slice B2 m2 d2,.bool true] 171):=(yw.block _ zO (Px.out _ zO)).trans H76.out;have k10:wb.heap[w4.heap.size]?=some (.cells #[.slice E1 g1 f1,.slice E2 g2 f2,.bool D9] 171):=(yw.block _ zO (Px.out _ zO)).trans H10.out;have j7:wq.heap[w2.heap.size]?=some (.cells #[.slice B1 m1 d1,.slice B2 m2 d2,.bool true] 171):=(D5.block _ zO (Px.out _ zO)).trans H76.out;have j10:wq.heap[w4.heap.size]?=some (.cells #[.slice E1 g1 f1,.slice E2 g2 f2,.bool D9] 171):=(D5.block _ zO (Px.out _ zO)).trans H10.out;obtain⟨a0,a1,a2⟩:=dJ j7
    obtain⟨a3,a4,a5⟩:=dJ j10;obtain⟨b0,b1,b2⟩:=dJ k7;obtain⟨b3,b4,b5⟩:=dJ k10;have t0:=frozen_of_row wb w2.heap.size 0 _ _ k7;have t1:=frozen_of_row wb w2.heap.size 1 _ _ k7;have t2:=frozen_of_row wb w2.heap.size 2 _ _ k7;have HK7:=zH k7;have ahw:=zH wQ;clear j7 j10 k7 k10 yw D5 wQ hHeld;refine ah.on 4 λK hK=>?_;refine wM rfl (.tmp 69) (.tmp 71) 58 rfl rfl rfl NR ?_;refine di hK (λ_=>⟨a0,a1,a2,a3,a4,a5⟩) ?_;clear hK K;refine ah.on 9 λK hK=>?_;refine wM rfl (.tmp 74) (.tmp 76) 58 rfl rfl rfl Xb ?_;refine di hK (λ_=>⟨b0,b1,b2,b3,b4,b5⟩) ?_;clear hK K;have hHeld:wb.cell? ⟨w2.heap.size,0,none⟩=some (.slice B1 m1 d1)/\wb.cell? ⟨w2.heap.size,1,none⟩=some (.slice B2 m2 d2)/\wb.cell? ⟨w2.heap.size,2,none⟩=some (.bool true)/\wb.cell? ⟨w4.heap.size,0,none⟩=some (.slice E1 g1 f1)/\wb.cell? ⟨w4.heap.size,1,none⟩=some (.slice E2 g2 f2)/\wb.cell? ⟨w4.heap.size,2,none⟩=some (.bool D9):=⟨b0,b1,b2,b3,b4,b5⟩;refine ah.tk 12 hHeld ?_;refine ah.no 13 hHeld ?_;refine ah.no 14 hHeld ?_;refine ah.tk 15 hHeld ?_;refine ah.tk 16 hHeld ?_;refine ah.on 17 λK hK=>?_;go_simp;refine iW hK ?_;clear hK K;refine ah.dn ?_;go_wp2_with fail;go_roundw
    case rel=>
     refine⟨i+1,m+dq,(tm.1,⟨r.2.first++tm.2.first,r.2.last++tm.2.last,r.2.empty||tm.2.empty⟩),zO,by go_num,by first | rfl | (simp[hwm];done) | go_num,HI2,?_⟩
     have bZ:=qL.app (r:=r) (r2:=(tm.1,⟨r.2.first++tm.2.first,r.2.last++tm.2.last,r.2.empty||tm.2.empty⟩)) (t7:=w2.heap.size) gW.out fC.out rM.out su ahv zO UD.out (λk h=>by
      rcases qZ.out k h with h | h
      ·exact .inl h
      ·right;omega) HK6.out Eb.out yD.out (λk h=>⟨h.1,h.2.1⟩) ahw.out HK7.out
     rw[show (tm.1,(⟨r.2.first++tm.2.first,r.2.last++tm.2.last,r.2.empty||tm.2.empty⟩:dR)).2.empty=(true||D9) from by show (r.2.empty||tm.2.empty)=_;rw[pO.out,Vt.out]] at bZ;exact bZ
    case measure=>simp[intOf];omega
  ·obtain rfl:i=n:=by omega
   have jV:decide (i<i)=false:=by simp
   have hRr:r=R:=by
    have h:=HI.out.eq;rw[HNA.out,List.drop_length,pI] at h;exact h
   subst hRr;have t0:=frozen_of_row wr (w.heap.size+1) 0 _ _ zW;have t1:=frozen_of_row wr (w.heap.size+1) 1 _ _ zW;have t2:=frozen_of_row wr (w.heap.size+1) 2 _ _ zW;obtain⟨y0,y1,y2⟩:=dJ zW;have rM:=zH lH;have gW:=zH hT1;have fC:=zH hT2;have HS:=zH hS;have pO:=zH jm;have Pv:=zH tC;have Ah:=zH yZ;clear lH hT1 hT2 hS jm tC zW h7 uh yZ;go_wp2_with fail;have Q7:=yT (v0:=.slice B1 m1 d1) (v1:=.slice B2 m2 d2) (v2:=.bool be) HR6.out;obtain⟨l0,l1,l2⟩:=dJ Q7;refine bodyPost_ret (v:=.agg #[.slice B1 m1 d1,.slice B2 m2 d2,.bool be]) (by simp[results,Tryz.results167,go_sem,l0,l1,l2]) rfl ?_
   exact EG (B:=w3.heap.size) gW.out (λq h=>by
    rcases fC.out _ h with h | h
    ·exact .inl h
    ·right;omega) zO hle (Ah.out _ zO zO) ((Kept.of_below (ai.seq jX)).up rM.out (by rintro q (h | h);exact .inl h;right;omega)) Pv.out HS.out zO zO pO.out rfl
theorem aj7(p:aJ)(Md:fD p.kind=true):QW p:=by
 intro num cs w base bm T hd pl pv rs hM hr hF hlen lQ;have hle:=hM.le
 have GI:1<=ja p:=by unfold ja;rw[if_pos Md];omega
 have AU:rs.length=pl.length:=hM.len;obtain⟨P0,pU,oC⟩:=hM.own.form;obtain⟨pn,Py⟩:=zF rs.length;rw[Py] at oC;subst oC;have Xk:=zH Py;clear Py;have hr0:=hr;obtain⟨k,mn,mx,el,ck,ns,nl,sp,A1,n1,c1,A2,n2,c2,pr,A,n,c,rfl,hk,-⟩:=aW hr;obtain⟨w1,bI,S1,S2,nC,ai⟩:=ed w (.cells #[.int .i64 k,.int .i64 mn,.int .i64 mx,.int .i64 el,.int .i64 ck,.string ns,.string nl,.string sp,.slice A1 n1 c1,.slice A2 n2 c2,.int .i64 pr,.slice A n c] 29) (.cells #[.slice none 0 0,.slice none 0 0,.bool false] 171)
 have e1:w1.heap.size=w.heap.size+2:=by rw[<-bI];simp
 have HC:Hid (Rt 114 #[.agg (o5 k mn mx el ck ns nl sp A1 n1 c1 A2 n2 c2 pr A n c)] w1 (.bool true)):=zH (by
  have h:=ND p _ w1 _ (hr.below (ai.mono hle))
  rwa [Md] at h)
 obtain⟨q0,q1,q2,q3,q4,q5,q6,q7,q8,q9,aF,aG⟩:=aj S1;have aQ:=zH S1;have gY:=zH S2;have HM:=zH hM;have HR:=zH hr;have BR:=zH AU;clear S1 S2 hM hr hF hk AU hr0;go_enter Tryz.func167,Tryz.ntmps167;go_wp2_with fail;refine HC.out.mono ?_;rintro e w2 ⟨rfl,ag⟩;clear q0 q1 q2 q3 q4 q5 q6 q7 q8 q9 aF aG;have S1':=ae aQ.out ag;have S2':=ae gY.out ag;have s2:=ag.size;obtain⟨q0,q1,q2,q3,q4,q5,q6,q7,q8,q9,aF,aG⟩:=aj S1';have uy:=zH (HM.out.below (ai.seq ag));have yP:=uy.out.blk
 have m1:w2.cell? ⟨bm,1,none⟩=some (.slice P0 pn pU):=by rw[cell_of_row w2 bm _ _ _ _ yP];rfl
 have Lh:=zH (ai.seq ag);have asV:=zH S1';have Ld:=zH S2';have HBM:=zH yP;have jA:bm<w.heap.size:=(HM.out.inT bm HM.out.IP).2;have EY:Hid (w2.drew.cell? ⟨bm,1,none⟩=some (.slice P0 pn pU)/\w2.drew.cell? ⟨w.heap.size,0,none⟩=some (.int .i64 k)/\w2.drew.cell? ⟨w.heap.size,1,none⟩=some (.int .i64 mn)/\w2.drew.cell? ⟨w.heap.size,2,none⟩=some (.int .i64 mx)/\w2.drew.cell? ⟨w.heap.size,3,none⟩=some (.int .i64 el)/\w2.drew.cell? ⟨w.heap.size,4,none⟩=some (.int .i64 ck)/\w2.drew.cell? ⟨w.heap.size,5,none⟩=some (.string ns)/\w2.drew.cell? ⟨w.heap.size,6,none⟩=some (.string nl)/\w2.drew.cell? ⟨w.heap.size,7,none⟩=some (.string sp)/\w2.drew.cell? ⟨w.heap.size,8,none⟩=some (.slice A1 n1 c1)/\w2.drew.cell? ⟨w.heap.size,9,none⟩=some (.slice A2 n2 c2)/\w2.drew.cell? ⟨w.heap.size,10,none⟩=some (.int .i64 pr)/\w2.drew.cell? ⟨w.heap.size,11,none⟩=some (.slice A n c)):=zH ⟨m1,q0,q1,q2,q3,q4,q5,q6,q7,q8,q9,aF,aG⟩;clear S1' S2' yP ag;go_wp2_with fail;refine ah.start (λW=>W.cell? ⟨bm,1,none⟩=some (.slice P0 pn pU)/\W.cell? ⟨w.heap.size,0,none⟩=some (.int .i64 k)/\W.cell? ⟨w.heap.size,1,none⟩=some (.int .i64 mn)/\W.cell? ⟨w.heap.size,2,none⟩=some (.int .i64 mx)/\W.cell? ⟨w.heap.size,3,none⟩=some (.int .i64 el)/\W.cell? ⟨w.heap.size,4,none⟩=some (.int .i64 ck)/\W.cell? ⟨w.heap.size,5,none⟩=some (.string ns)/\W.cell? ⟨w.heap.size,6,none⟩=some (.string nl)/\W.cell? ⟨w.heap.size,7,none⟩=some (.string sp)/\W.cell? ⟨w.heap.size,8,none⟩=some (.slice A1 n1 c1)/\W.cell? ⟨w.heap.size,9,none⟩=some (.slice A2 n2 c2)/\W.cell? ⟨w.heap.size,10,none⟩=some (.int .i64 pr)/\W.cell? ⟨w.heap.size,11,none⟩=some (.slice A n c)) 12 zK ?_
 have hHeld:=EY.out;refine ah.tk 0 hHeld ?_;refine ah.tk 1 hHeld ?_;refine ah.tk 2 hHeld ?_;refine ah.tk 3 hHeld ?_;refine ah.tk 4 hHeld ?_;refine ah.tk 5 hHeld ?_;refine ah.tk 6 hHeld ?_;refine ah.tk 7 hHeld ?_;refine ah.on 8 λK hK=>?_;obtain⟨w3,vU,S3,su,az⟩:=af w2.drew (.cells #[.int .i64 k,.int .i64 mn,.int .i64 mx,.int .i64 el,.int .i64 ck,.string ns,.string nl,.string sp,.slice A1 n1 c1,.slice A2 n2 c2,.int .i64 pr,.slice A n c,.int .i64 num,.slice none 0 0] 195)
 have e3:w3.heap.size=w2.heap.size+1:=by rw[<-vU];simp
 have Vw:Bw w2 w3:=az.xY;have I4:=zH (uy.out.below Vw);have x2:=ae Ld.out Vw;obtain⟨z0,z1,z2,z3,z4,z5,z6,z7,z8,z9,nZ,og⟩:=aj (ae asV.out Vw)
 have mm3:w3.cell? ⟨bm,1,none⟩=some (.slice P0 pn pU):=by rw[cell_of_row w3 bm _ _ _ _ I4.out.blk];rfl
 have Q4:Hid (w3.cell? ⟨bm,1,none⟩=some (.slice P0 pn pU)/\w3.cell? ⟨w.heap.size,0,none⟩=some (.int .i64 k)/\w3.cell? ⟨w.heap.size,1,none⟩=some (.int .i64 mn)/\w3.cell? ⟨w.heap.size,2,none⟩=some (.int .i64 mx)/\w3.cell? ⟨w.heap.size,3,none⟩=some (.int .i64 el)/\w3.cell? ⟨w.heap.size,4,none⟩=some (.int .i64 ck)/\w3.cell? ⟨w.heap.size,5,none⟩=some (.string ns)/\w3.cell? ⟨w.heap.size,6,none⟩=some (.string nl)/\w3.cell? ⟨w.heap.size,7,none⟩=some (.string sp)/\w3.cell? ⟨w.heap.size,8,none⟩=some (.slice A1 n1 c1)/\w3.cell? ⟨w.heap.size,9,none⟩=some (.slice A2 n2 c2)/\w3.cell? ⟨w.heap.size,10,none⟩=some (.int .i64 pr)/\w3.cell? ⟨w.heap.size,11,none⟩=some (.slice A n c)):=zH ⟨mm3,z0,z1,z2,z3,z4,z5,z6,z7,z8,z9,nZ,og⟩;obtain⟨lc,hlc⟩:∃lc:rE 12,lc.1=[.int .i64 k,.int .i64 mn,.int .i64 mx,.int .i64 el,.int .i64 ck,.string ns,.string nl,.string sp,.slice A1 n1 c1,.slice A2 n2 c2,.int .i64 pr,.slice A n c]:=⟨⟨[.int .i64 k,.int .i64 mn,.int .i64 mx,.int .i64 el,.int .i64 ck,.string ns,.string nl,.string sp,.slice A1 n1 c1,.slice A2 n2 c2,.int .i64 pr,.slice A n c],rfl,by intro u hu;simp only[z15,List.not_mem_nil,or_false] at hu;rcases hu with rfl | rfl | rfl | rfl | rfl | rfl | rfl | rfl | rfl | rfl | rfl | rfl<;>rfl⟩,rfl⟩
 have aaF:cu w3 w2.heap.size 0 (sH ⟨lc,num,none,0,0⟩):=by
  intro j v hj;have S3':w3.heap[w2.heap.size]?=_:=S3;rw[Nat.zero_add,cell_of_row w3 _ _ _ _ _ S3'];unfold sH lK.fv at hj;rw[hlc] at hj;rw[<-hj];simp
 have axR:rs.length<3000000:=by rw[Xk.out];have:=BR.out;have:=Xk.out;omega
 obtain⟨fA,fn,fc,w4,bG,Ed,CY,jl⟩:=amE w3 base rs P0 pn pU I4.out.own w2.heap.size 1 ⟨lc,num,none,0,0⟩ aaF axR I4.out.le 167
 have IU:fn=pl.length+1:=by
  obtain⟨A',c',e⟩:=Ed.form;simp only[Value.slice.injEq] at e;rw[e.2.1,List.length_append,BR.out];rfl
 have HLC:Hid (au w3 (· <base) (aZ p) lc.1):=zH (by rw[hlc];exact HR.out.below ((Lh.out.seq Vw).mono hle));obtain⟨JY,hK5⟩:=I4.out.add HLC.out (num:=num) Ed CY jl;obtain⟨w5,pq⟩:=zF (w4.setCell ⟨bm,1,none⟩ (.slice fA fn fc));rw[pq] at JY hK5;have Dc:∀k,k<w3.heap.size->(Value.slice P0 pn pU).ownBlock≠some k->w4.heap[k]?=w3.heap[k]?:=λk h1 h2=>CY.block k h1 (λe=>h2 e.symm);have hpt:∀k,(Value.slice P0 pn pU).ownBlock=some k->k<w.heap.size/\k≠bm:=λk hk=>⟨(HM.out.inT k (HM.out.Fv k hk).1).2,(HM.out.Fv k hk).2⟩;have b4:w4.heap[bm]?=some (.cells (Yx hd (.slice P0 pn pU)) 169):=(Dc bm zO (λe=>(hpt bm e).2 rfl)).trans I4.out.blk;have y2:w4.heap[w.heap.size+1]?=some (.cells #[.slice none 0 0,.slice none 0 0,.bool false] 171):=(Dc _ zO (λe=>by have:=(hpt _ e).1;omega)).trans x2;obtain⟨u0,u1,u2,u3,u4,u5,u6,u7,u8,u9,u10,u11⟩:=aj ((Dc w.heap.size zO (λe=>by have:=(hpt _ e).1;omega)).trans (ae asV.out Vw))
 have mm4:w4.cell? ⟨bm,1,none⟩=some (.slice P0 pn pU):=by rw[cell_of_row w4 bm _ _ _ _ b4];rfl
 have f4:=frozen_of_row w4 bm 1 _ _ b4;have aj8:Hid (w4.cell? ⟨bm,1,none⟩=some (.slice P0 pn pU)/\w4.cell? ⟨w.heap.size,0,none⟩=some (.int .i64 k)/\w4.cell? ⟨w.heap.size,1,none⟩=some (.int .i64 mn)/\w4.cell? ⟨w.heap.size,2,none⟩=some (.int .i64 mx)/\w4.cell? ⟨w.heap.size,3,none⟩=some (.int .i64 el)/\w4.cell? ⟨w.heap.size,4,none⟩=some (.int .i64 ck)/\w4.cell? ⟨w.heap.size,5,none⟩=some (.string ns)/\w4.cell? ⟨w.heap.size,6,none⟩=some (.string nl)/\w4.cell? ⟨w.heap.size,7,none⟩=some (.string sp)/\w4.cell? ⟨w.heap.size,8,none⟩=some (.slice A1 n1 c1)/\w4.cell? ⟨w.heap.size,9,none⟩=some (.slice A2 n2 c2)/\w4.cell? ⟨w.heap.size,10,none⟩=some (.int .i64 pr)/\w4.cell? ⟨w.heap.size,11,none⟩=some (.slice A n c)):=zH ⟨mm4,u0,u1,u2,u3,u4,u5,u6,u7,u8,u9,u10,u11⟩
 have y5:w5.heap[w.heap.size+1]?=some (.cells #[.slice none 0 0,.slice none 0 0,.bool false] 171):=by rw[<-pq];exact dE zO y2
 have b5:w5.heap[bm]?=some (.cells (Yx hd (.slice fA fn fc)) 169):=JY.blk;have Dj:=zH JY;have Rk:=zH hK5;have HY5:=zH y5;have HW5:=zH pq;have qB:=zH bG;have HFN:=zH IU;have lX:=zH Vw;have HO4:=zH Ed;have asY:=zH jl;have BU:=zH b5;clear JY hK5 y5 pq bG IU Vw az Ed jl b5 hHeld S3 aaF Dc hpt b4 y2 x2 hlc CY;go_simp;refine di hK (λ_=>Q4.out) ?_;clear hK K;refine ah.on 9 λK hK=>?_;refine wM rfl (.tmp 17) (.tmp 21) 167 rfl rfl rfl qB.out ?_;refine di hK (λ_=>aj8.out) ?_;clear hK K;have hHeld:=aj8.out;refine ah.ta 10 hHeld ?_;refine ah.ta 11 hHeld ?_;refine ah.on 12 λK hK=>?_;go_simp;refine iW hK ?_;clear hK K;refine ah.dn ?_;rw[HW5.out];have s5:w3.heap.size<=w5.heap.size:=Rk.out.size;obtain⟨ln,Zz⟩:=zF pl.length;have IU:=HFN.out;rw[Zz] at IU;subst IU;have UA:=zH Zz
 have amM:ln<=1000:=by omega
 have hwr:IntKind.i64.wrap (ln:Int)=(ln:Int):=by rw[IntKind.wrap_i64];omega
 clear Zz
 have c5:w5.cell? ⟨bm,1,none⟩=some (.slice fA (ln+1) fc):=by rw[cell_of_row w5 bm _ _ _ _ BU.out];rfl
 have G6:Hid (w5.drew.cell? ⟨bm,1,none⟩=some (.slice fA (ln+1) fc)):=zH c5;clear hHeld f4;go_wp2_with fail;refine ah.start (λW=>W.cell? ⟨bm,1,none⟩=some (.slice fA (ln+1) fc)) 15 zK ?_;have hHeld:=G6.out;refine ah.tk 0 hHeld ?_;refine ah.tk 1 hHeld ?_;refine ah.tk 2 hHeld ?_;refine ah.tk 3 hHeld ?_;refine ah.tk 4 hHeld ?_;refine ah.tk 5 hHeld ?_;refine ah.tk 7 hHeld ?_;refine ah.tk 8 hHeld ?_;refine ah.tk 9 hHeld ?_;refine ah.tk 10 hHeld ?_;refine ah.tk 11 hHeld ?_;refine ah.tk 12 hHeld ?_
 have HOP:Hid (kL p num pl=(pl++[⟨p,num,[]⟩],⟨[ln],[ln],false⟩)):=zH (by
  rw[<-UA.out];obtain⟨k',nI,mx',uo,c',pr',args'⟩:=p
  rw[kL,if_pos (show fD k'=true from Md)])
 have fC:Hid (∀k,(T k\/(Value.slice fA (ln+1) fc).ownBlock=some k)->T k\/w.heap.size<=k):=zH (by
  rintro k (h | h)
  ·exact .inl h
  ·rcases asY.out with e | e
   ·exact .inl (HM.out.Fv k (e.symm.trans h)).1
   ·have e':=e.symm.trans h
    have:=zI e'
    right;omega)
 have HNT:Hid (¬(T (w.heap.size+1)\/(Value.slice fA (ln+1) fc).ownBlock=some (w.heap.size+1))):=zH (by
  have hT1:¬T (w.heap.size+1):=λh=>by have:=(HM.out.inT _ h).2;omega
  rintro (h | h)
  ·exact hT1 h
  ·rcases asY.out with e | e
   ·exact hT1 (HM.out.Fv _ (e.symm.trans h)).1
   ·have e':=e.symm.trans h
    have:=zI e'
    omega)
 have s12:w.heap.size+2<=w2.heap.size:=by omega
 refine ah.tw 6 13 (λK hK=>?_) (λK hK=>?_)
 ·obtain⟨w6,hw6,S6,hs6,dQ⟩:=af w5.drew (.cells #[.int .i64 ln] 3)
  obtain⟨w7,JX,S7,hs7,eP⟩:=af w6 (.cells #[.int .i64 ln] 3)
  have e6:w6.heap.size=w5.heap.size+1:=by rw[<-hw6];simp
  have e7:w7.heap.size=w6.heap.size+1:=by rw[<-JX];simp
  have Vx:Bw w5 w6:=dQ.xY;have S6':w6.heap[w5.heap.size]?=some (.cells #[.int .i64 ln] 3):=S6;have N8:=Vx.seq eP
  have c6:w6.cell? ⟨bm,1,none⟩=some (.slice fA (ln+1) fc):=by rw[cell_of_row w6 bm _ _ _ _ (ae BU.out Vx)];rfl
  have c7:w7.cell? ⟨bm,1,none⟩=some (.slice fA (ln+1) fc):=by rw[cell_of_row w7 bm _ _ _ _ (ae BU.out N8)];rfl
  have y7:=ae HY5.out N8;have f0:=frozen_of_row w7 (w.heap.size+1) 0 _ _ y7;have f1:=frozen_of_row w7 (w.heap.size+1) 1 _ _ y7;have f2:=frozen_of_row w7 (w.heap.size+1) 2 _ _ y7;have b0:=dJ y7;have S5':=ae S6' eP;rw[e6] at S7;have G5:=zH S7;have amN:=zH S5';have HY7:=zH y7;have acH:=zH N8;clear S6 S7 S6' S5' dQ Vx eP N8 hHeld y7;go_simp;refine di hK (λ_=>c6) ?_;clear hK K;refine ah.on 13 λK hK=>?_;go_simp;refine di hK (λ_=>c7) ?_;clear hK K;have hHeld:=c7;refine ah.tk 14 hHeld ?_;refine ah.on 15 λK hK=>?_;go_simp;refine iW hK ?_;clear hK K;refine ah.dn ?_;go_wp2_with fail;have Q7:=yT (v0:=.slice (some ⟨w5.heap.size,0,none⟩) 1 1) (v1:=.slice (some ⟨w5.heap.size+1,0,none⟩) 1 1) (v2:=.bool false) HY7.out;obtain⟨l0,l1,l2⟩:=dJ Q7;refine bodyPost_ret (v:=.agg #[.slice (some ⟨w5.heap.size,0,none⟩) 1 1,.slice (some ⟨w5.heap.size+1,0,none⟩) 1 1,.bool false]) (by simp[results,Tryz.results167,go_sem,l0,l1,l2]) rfl ?_;rw[HOP.out]
  have mM:iT w7 base (λk=>w5.heap.size<=k/\¬(T k\/(Value.slice fA (ln+1) fc).ownBlock=some k)) (⟨[ln],[ln],false⟩:dR) (.slice (some ⟨w5.heap.size,0,none⟩) 1 1) (.slice (some ⟨w5.heap.size+1,0,none⟩) 1 1):=by
   refine⟨sQ amN.out zO,sQ G5.out zO,λk hk=>?_,λk hk=>?_,λk h1 h2=>by have e1:=zI h1;have e2:=zI h2;simp only at e1 e2;omega⟩
   ·have e1:w5.heap.size=k:=zI hk
    exact⟨zO,λh=>by have:=(Dj.out.inT _ h).2;omega⟩
   ·have e1:w5.heap.size+1=k:=zI hk
    exact⟨zO,λh=>by have:=(Dj.out.inT _ h).2;omega⟩
  exact EG (B:=w5.heap.size) (λ_ h=>.inl h) fC.out zO hle HNT.out (((Kept.of_below (Lh.out.seq lX.out)).up Rk.out λ_ h=>.inl h).up (Kept.of_below acH.out (M:=λ_=>False)) λ_ h=>h.elim) (Dj.out.below acH.out) mM zO zO rfl rfl
 ·obtain⟨w6,hw6,S6,hs6,dQ⟩:=af w5.drew (.cells #[.int .i64 ln] 3)
  obtain⟨w7,JX,S7,hs7,eP⟩:=af w6 (.cells #[.int .i64 ln] 3)
  have e6:w6.heap.size=w5.heap.size+1:=by rw[<-hw6];simp
  have e7:w7.heap.size=w6.heap.size+1:=by rw[<-JX];simp
  have Vx:Bw w5 w6:=dQ.xY;have S6':w6.heap[w5.heap.size]?=some (.cells #[.int .i64 ln] 3):=S6;have N8:=Vx.seq eP
  have c6:w6.cell? ⟨bm,1,none⟩=some (.slice fA (ln+1) fc):=by rw[cell_of_row w6 bm _ _ _ _ (ae BU.out Vx)];rfl
  have c7:w7.cell? ⟨bm,1,none⟩=some (.slice fA (ln+1) fc):=by rw[cell_of_row w7 bm _ _ _ _ (ae BU.out N8)];rfl
  have y7:=ae HY5.out N8;have f0:=frozen_of_row w7 (w.heap.size+1) 0 _ _ y7;have f1:=frozen_of_row w7 (w.heap.size+1) 1 _ _ y7;have f2:=frozen_of_row w7 (w.heap.size+1) 2 _ _ y7;have b0:=dJ y7;have S5':=ae S6' eP;rw[e6] at S7;have G5:=zH S7;have amN:=zH S5';have HY7:=zH y7;have acH:=zH N8;clear S6 S7 S6' S5' dQ Vx eP N8 hHeld y7;go_simp;refine di hK (λ_=>c6) ?_;clear hK K;refine ah.on 6 λK hK=>?_;go_simp;refine di hK (λ_=>c7) ?_;clear hK K;have hHeld:=c7;refine ah.tk 14 hHeld ?_;refine ah.on 15 λK hK=>?_;go_simp;refine iW hK ?_;clear hK K;refine ah.dn ?_;go_wp2_with fail;have Q7:=yT (v0:=.slice (some ⟨w5.heap.size+1,0,none⟩) 1 1) (v1:=.slice (some ⟨w5.heap.size,0,none⟩) 1 1) (v2:=.bool false) HY7.out;obtain⟨l0,l1,l2⟩:=dJ Q7;refine bodyPost_ret (v:=.agg #[.slice (some ⟨w5.heap.size+1,0,none⟩) 1 1,.slice (some ⟨w5.heap.size,0,none⟩) 1 1,.bool false]) (by simp[results,Tryz.results167,go_sem,l0,l1,l2]) rfl ?_;rw[HOP.out]
  have mM:iT w7 base (λk=>w5.heap.size<=k/\¬(T k\/(Value.slice fA (ln+1) fc).ownBlock=some k)) (⟨[ln],[ln],false⟩:dR) (.slice (some ⟨w5.heap.size+1,0,none⟩) 1 1) (.slice (some ⟨w5.heap.size,0,none⟩) 1 1):=by
   refine⟨sQ G5.out zO,sQ amN.out zO,λk hk=>?_,λk hk=>?_,λk h1 h2=>by have e1:=zI h1;have e2:=zI h2;simp only at e1 e2;omega⟩
   ·have e1:w5.heap.size+1=k:=zI hk
    exact⟨zO,λh=>by have:=(Dj.out.inT _ h).2;omega⟩
   ·have e1:w5.heap.size=k:=zI hk
    exact⟨zO,λh=>by have:=(Dj.out.inT _ h).2;omega⟩
  exact EG (B:=w5.heap.size) (λ_ h=>.inl h) fC.out zO hle HNT.out (((Kept.of_below (Lh.out.seq lX.out)).up Rk.out λ_ h=>.inl h).up (Kept.of_below acH.out (M:=λ_=>False)) λ_ h=>h.elim) (Dj.out.below acH.out) mM zO zO rfl rfl
end Go.Proofs.YtgmnnegfndpakaaGreatDoor
