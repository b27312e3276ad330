import Derived.Test.YtgmnnegfndpakaaGreatDoorWayC
set_option maxHeartbeats 20000000
set_option maxRecDepth 100000
namespace Go.Proofs.YtgmnnegfndpakaaGreatDoor
open Go.RowKit Go.Proofs.Tryz
variable{elems:List (List Nm)}{p x:aJ}{n:Int}
def aA5(elems:List (List Nm))(p:aJ):Prop:=∀(num:Nat),num+dh p<=50->∀(u:List Nm) (W:World) (cs:List Value) (eA:Option Addr) (en ec:Nat) (alH:Option Addr) (un uc:Nat),aGK W p elems cs eA en->aY W (· <W) 2 dK u alH un->un<=4->un<=uc->
 Cl 96 #[.agg cs.toArray,(eA,en,ec),(alH,un,uc),num] W (aGL (agU (Gf elems) p num u) W)
theorem aL0(h:aA5 elems p)(hn:bU p.mn p.mx=true):aW8 elems p:=by
 intro num lQ u W cs eA en ec alH un uc hL hu JL huc
 have hb:0<=p.mn/\p.mn<=1000/\(p.mx= -1\/p.mn<=p.mx)/\p.mx<=1000:=by
  unfold bU at hn;simp only[z7,Bool.or_eq_true,gy] at hn;omega
 exact a0I p elems cs eA en ec num lQ (λu W alH un uc h1 h2 h3 h4=>h num lQ u W cs eA en ec alH un uc h1 h2 h3 h4) _ _ u p.mn p.mx W alH un uc rfl rfl hb.1 hb.2.1 hb.2.2.1 hb.2.2.2 hL hu JL huc
theorem atg:∀{l:List aJ},jZ n l=true->∀x∈l,bU x.mn x.mx=true/\bT n false x=true
 | [],_,_,hx=>by cases hx
 | p::l,h,x,hx=>by
   rw[jZ] at h;simp only[z7] at h
   rcases TT.1 hx with rfl | hx
   ·exact h.1
   exact atg h.2 x hx
theorem aKs(h:bT n false x=true):x.kind≠5:=λe=>by
 rw[ahl e] at h;simp at h
theorem aL2{top:Bool}(h:bT (elems.length:Int) top x=true):xE elems x:=λe=>by
 rw[abm e] at h;simp only[z7,gy] at h;exact⟨h.1.1.1.1,h.1.1.1.2⟩
def asy(acc:aJ->Nm->Bool)(l:List aJ)(num:Nat)(u:List Nm)(i:Nat)(s:List Nat):Prop:=∃j x,j<i/\l[j]?=some x/\ajt acc x (num+dZ (l.take j)) x.mn x.mx u s
section
variable {acc:aJ->Nm->Bool} {l:List aJ} {num i:Nat} {u:List Nm} {s:List Nat} {x:aJ}
theorem aQJ:¬asy acc l num u 0 s:=λ⟨_,_,h,_⟩=>Nat.not_lt_zero _ h
theorem aQK(hx:l[i]?=x):asy acc l num u (i+1) s↔asy acc l num u i s\/ajt acc x (num+dZ (l.take i)) x.mn x.mx u s:=by
 constructor
 ·rintro⟨j,y,h1,h2,h3⟩;by_cases e:j=i
  ·subst e;obtain rfl:=zI (hx.symm.trans h2);exact .inr h3
  exact .inl ⟨j,y,zO,h2,h3⟩
 rintro (⟨j,y,h1,h2,h3⟩ | h)
 ·exact⟨j,y,zO,h2,h3⟩
 exact⟨i,x,zO,hx,h⟩
theorem aKw{l:List aJ}:∀{i:Nat} {x:aJ},l[i]?=x->dZ (l.take (i+1))=dZ (l.take i)+dh x:=by
 induction l with
 | nil=>intro i x h;simp at h
 | cons y l ih=>
   intro i x h
   cases i with
   | zero=>
     obtain rfl:=zI h;simp[dZ]
   | succ i=>
     have h':l[i]?=x:=(by simpa using h);rw[Zs,Zs,dZ,dZ,ih h'];omega
theorem aFE{l:List aJ}:∀{i:Nat} {x:aJ},l[i]?=x->dZ (l.take i)+dh x<=dZ l:=by
 induction l with
 | nil=>intro i x h;simp at h
 | cons y l ih=>
   intro i x h
   cases i with
   | zero=>
     obtain rfl:=zI h;simp[dZ]
   | succ i=>
     have h':l[i]?=x:=(by simpa using h);have:=ih h';rw[Zs,dZ,dZ];omega
end
theorem aKq{acc:aJ->Nm->Bool}{u:List Nm}{s:List Nat}:∀{l:List aJ} {num:Nat},asy acc l num u l.length s↔akw acc l num u s
 | [],num=>⟨λ⟨_,_,h,_⟩=>absurd h (Nat.not_lt_zero _),λh=>absurd h aYU⟩
 | p::l,num=>by
   rw[aYO,<-aKq (l:=l)];constructor
   ·rintro⟨j,x,h1,h2,h3⟩
    cases j with
    | zero=>
      obtain rfl:=zI h2;exact .inl h3
    | succ j=>
      rw[Zs,dZ,<-Nat.add_assoc] at h3;exact .inr ⟨j,x,by simpa using h1,by simpa using h2,h3⟩
   rintro (h | ⟨j,x,h1,h2,h3⟩)
   ·exact⟨0,p,zP,rfl,h⟩
   refine⟨j+1,x,by rw[z9];omega,by simpa using h2,?_⟩;rw[Zs,dZ,<-Nat.add_assoc];exact h3
theorem aT2{acc:aJ->Nm->Bool}{l:List aJ}{num i:Nat}{u:List Nm}{s:List Nat}(hn:num+dZ l<=50)(h:asy acc l num u i s):Gd u.length s:=by
 obtain⟨j,x,_,h2,h3⟩:=h;have:=aFE h2;exact⟨aYV h3,λy hy=>by have:=aYX h3 y hy;omega⟩
theorem a3w(elems:List (List Nm)):∀(p:aJ) (top:Bool),bT (elems.length:Int) top p=true->p.kind≠5->aA5 elems p:=by
 intro p
 induction p using aJ.ind with
 | h k' nI mx' uo cl' pr' args ih=>
 intro top hf lq num lQ u w cs eA en ec alH un uc hL hu JL huc;have rZ:Hid (∀x∈(aJ.mk k' nI mx' uo cl' pr' args).args,∀(top:Bool),bT (elems.length:Int) top x=true->x.kind≠5->aA5 elems x):=zH ih;have aFB:fD k'=true->∀s,agU (Gf elems) (.mk k' nI mx' uo cl' pr' args) num u s↔∃n,u=[n]/\Gf elems (.mk k' nI mx' uo cl' pr' args) n=true/\s=[num]:=λh s=>aYE h;have aFC:k'=3->∀s,agU (Gf elems) (.mk k' nI mx' uo cl' pr' args) num u s↔ajV (Gf elems) args (num+1) u s:=λh s=>aYR (by rw[h];rfl) h;have aFD:k'=4->∀s,agU (Gf elems) (.mk k' nI mx' uo cl' pr' args) num u s↔akw (Gf elems) args (num+1) u s:=λh s=>aYS (by rw[h];rfl) zO;have aTW:dh (.mk k' nI mx' uo cl' pr' args)=1+dZ args:=(by rw[dh]);have wF:(aJ.mk k' nI mx' uo cl' pr' args).args=args:=rfl;have aTX:(aJ.mk k' nI mx' uo cl' pr' args).kind=k':=rfl;obtain⟨p,hp⟩:=zF (aJ.mk k' nI mx' uo cl' pr' args);rw[hp] at rZ hL hf aFB aFC aFD lq lQ aTW wF aTX ⊢;subst wF;subst aTX;clear ih hp;obtain⟨k,mn,mx,el,ck,ns,nl,sp,A1,n1,c1,A2,n2,c2,pr,A0,n0,c0,rfl,hk,-,-,-,-,-,hn0,aI⟩:=aW hL.rep;have Yw:=hL.cap.args;have hlen:n0=p.args.length:=(by have:=aI.1;rwa [z8] at this);obtain⟨w1,bI,S1,nC,ai⟩:=zP1 w k mn mx el ck ns nl sp A1 n1 c1 A2 n2 c2 pr A0 n0 c0;obtain⟨q0,q1,q2,q3,q4,q5,q6,q7,q8,q9,aF,aG⟩:=aj S1;rw[hk] at aFB aFC aFD lq;obtain⟨HL,HU,aQ,nK,HK,lM,aAS,pR⟩:=zJ8 hL hu S1 ai hk aI Yw hlen;obtain⟨HF,gW,lG,HT4⟩:=zJ4 hf aFB aFC aFD;have acC:Hid (num+1+dZ p.args<=50):=zH zO;have HUN:=zH JL;have HUL:Hid (un=u.length):=zH hu.1;have gX:num<1000:=zO;have hwn:IntKind.i64.wrap ((num:Int)+1)=((num+1:Nat):Int):=zS3;clear hL hu S1 hk aI Yw hlen hf aFB aFC aFD lQ aTW;by_cases h12:k=1\/k=2
 ·have hlb:fD k=true:=(by unfold fD;simpa using h12);have HLT:=zH (gW hlb);have HAC:Hid (∀W nm,Bw w W->Rt 36 #[.agg (o5 k mn mx el ck ns nl sp A1 n1 c1 A2 n2 c2 pr A0 n0 c0),(eA,en,ec),.agg #[.string (Prod.fst nm),.string (Prod.snd nm)]] W (.bool (Gf elems p nm))):=zH λW nm hW=>aEE elems p _ eA en ec nm.1 nm.2 W (HL.rep.keepW hW) (HL.el.keepW hW) (aL2 HF)
  have HNO:Hid ((∀n,u=[n]->Gf elems p n=true->False)->∀W,Bw w W->aGL (agU (Gf elems) p num u) w (.returned ()) W):=zH λh W hW=>⟨_,[],rfl,SqI.nil,.nil,λs=>by
   rw[HLT s]
   exact⟨λh=>(by cases h),λ⟨n,h1,h2,_⟩=>(h n h1 h2).elim⟩,hW⟩
  clear hlb hwn lG HT4;go_enter func96,ntmps96;by_cases h1:un=1
  ·subst h1;have hu1:u.length=1:=HU.1.symm;obtain⟨b,off,x,y,HN,y0,y1,hux⟩:=aY.name (HU.keepW ai) (i:=0) zO uc;simp only[Nat.zero_mul,Qf] at y0 y1;have aQi:∀W,(Instr.indexAt 37 (alH,1,uc) (0:Int)).run prog W= .ok (b,off) W:=(by simpa using hux);clear hux
   have hue:u=[(x,y)]:=by
    have:=HN.out
    match u,hu1,this with
    | [a],_,h=>rw[zI h]
   obtain⟨b1,auB⟩:=zF (Gf elems p (x,y));have UD:Hid (∀W,Bw w W->Rt 36 #[.agg (o5 k mn mx el ck ns nl sp A1 n1 c1 A2 n2 c2 pr A0 n0 c0),(eA,en,ec),.agg #[x,y]] W b1):=zH λW hW=>(by rw[<-auB];exact HAC W (x,y) hW);obtain⟨HUE,U9,s0,s1,s2,s3,s4,s5⟩:=zK8 (zH hue) (zH auB) (Since.cell q0) (Since.cell q1) (Since.cell q2) (Since.cell q3) (Since.cell q4) (Since.cell q5);obtain⟨s6,s7,s8,s9,s10,UQ,s12,QF⟩:=zK8 (Since.cell q6) (Since.cell q7) (Since.cell q8) (Since.cell q9) (Since.cell aF) (Since.cell aG) (Since.cell y0) (Since.cell y1);clear hu1 hue auB HUL;cases b1
   ·have HPO:=zH (HNO.out λn h1 h2=>by
     rw[HUE.out] at h1;cases h1;rw[U9.out] at h2
     cases h2)
    rcases h12 with rfl | rfl
    all_goals
     go_wp2_with fail;refine yh zK zK ?_
     repeat (go_big_quiet_step (first | (go_at_call 36;exact Eo (UD _ (nK.seq (Since.below _))))))
     refine wpQuiet_nil ?_;intro wq hq;have Xo:=Ap hq;go_wp2_with fail;go_ret;exact HPO _ (nK.seq Xo)
   have HPO:Hid (∀wq w3 w4,Bw w wq->Bw wq w3->Bw w3 w4->w3.heap[wq.heap.size]?=(Zc #[num] 3)->w4.heap[w3.heap.size]?=some (.cells #[.slice (some ⟨wq.heap.size,0,none⟩) 1 1] 58)->aGL (agU (Gf elems) p num u) w (.returned (.slice (some ⟨w3.heap.size,0,none⟩) 1 1)) w4):=zH λwq w3 w4 h1 h2 h3 e3 e4=>by
    have hr:ax w4 w 3 1 aV [num] (.slice (some ⟨wq.heap.size,0,none⟩) 1 1):=⟨rfl,.inr ⟨_,1,_,rfl,h1.size,ae e3 h3,zR _,by unfold maxLen;omega,rfl,rfl⟩⟩;refine⟨_,[[num]],rfl,⟨[⟨some ⟨wq.heap.size,0,none⟩,1,1⟩],⟨rfl,.inr ⟨_,1,_,rfl,zT h1.size h2.size,e4,zR _,by unfold maxLen;omega,rfl,rfl⟩⟩,qg.snoc qg.nil hr⟩,zP,λs=>?_,(h1.seq h2).seq h3⟩;rw[HLT s,og];exact⟨λh=>⟨(x,y),HUE,U9,h⟩,λ⟨_,_,_,h⟩=>h⟩
   rcases h12 with rfl | rfl
   all_goals
    go_wp2_with fail;refine yh zK zK ?_
    repeat (go_big_quiet_step (first | (go_at_call 36;exact Eo (UD _ (nK.seq (Since.below _))))))
    refine wpQuiet_nil ?_;intro wq hq;have Xo:=Ap hq;clear hq;obtain⟨w3,vU,S3,su,az⟩:=af wq (Zc #[num] 3);obtain⟨w4,vV,S4,IX,aX⟩:=af w3 (Zc #[(wq,0,1,1)] 58);have HE:=zH (HPO wq w3 w4 (nK.seq Xo) az aX S3 S4);clear S3 S4 su IX az aX;go_wp2_with fail;go_ret;exact HE
  have hd:=zT2 ((un:Int)=1);have hdb:((un:Int)==1)=false:=zS1
  have HPO:=zH (HNO.out λn e _=>by
   rw[e] at HUL
   exact h1 HUL)
  obtain⟨s0,s1,s2,s3,s4,s5,s6,s7⟩:=zK8 (Since.cell q0) (Since.cell q1) (Since.cell q2) (Since.cell q3) (Since.cell q4) (Since.cell q5) (Since.cell q6) (Since.cell q7);obtain⟨s8,s9,s10,UQ⟩:=zK4 (Since.cell q8) (Since.cell q9) (Since.cell aF) (Since.cell aG);clear h1
  rcases h12 with rfl | rfl
  all_goals
   go_wp2_with fail;refine yh zK zK ?_
   repeat (go_big_quiet_step (first | (go_at_call 36;exact Eo (HAC _ (_,_) (nK.seq (Since.below _))))))
   refine wpQuiet_nil ?_;intro wq hq;have Xo:=Ap hq;go_wp2_with fail;go_ret;exact HPO _ (nK.seq Xo)
 by_cases h3:k=3
 ·subst h3;have hea:(xh p&&jZ (elems.length:Int) p.args)=true:=(by rw[<-apv HK];exact HF);simp only[z7] at hea;have CX:=atg hea.2
  have HC:Hid (Cl 158 #[(A0,n0,c0),(eA,en,ec),(alH,un,uc),((num+1:Nat):Int)] w1 λe w'=>aGL (agU (Gf elems) p num u) w e w'):=zH (by
   refine (aS2 elems p.args (num+1) acC (λx hx=>⟨aL0 (rZ x hx false (CX x hx).2 (aKs (CX x hx).2)) (CX x hx).1,(CX x hx).2⟩) u w1 A0 n0 c0 eA en ec alH un uc (lM.keepW nK) aAS.1 (aAS.2.keepW nK) (HL.el.keepW nK) (HU.keepW nK) JL huc).mono λe w' ⟨v,ls,e1,h1,h2,h3,h4⟩=>?_
   exact⟨v,ls,e1,h1.a0T nK.size,h2,λs=>(h3 s).trans (lG rfl s).symm,nK.seq h4⟩)
  clear hea CX h12;go_enter func96,ntmps96;go_wp2_with fail;refine HC.mono ?_;rintro e w2 ⟨v,ls,rfl,h1,h2,h3,h4⟩;have HP:Hid (aGL (agU (Gf elems) p num u) w (.returned v) w2):=zH ⟨v,ls,rfl,h1,h2,h3,h4⟩;obtain⟨rA,rc,rfl⟩:=h1.form;clear h1 h2 h3 h4;go_wp2_with fail;go_ret;exact HP
 have h4:k=4:=by
  by_cases e:k=4
  ·exact e
  exfalso;have hf:=HF.out;rw[QR (by rw[HK.out];omega) (by rw[HK.out];omega) (by rw[HK.out];exact h3) (by rw[HK.out];exact e) (by rw[HK.out];exact lq)] at hf;cases hf
 subst h4;have hea:(xh p&&decide (0<p.args.length)&&jZ (elems.length:Int) p.args)=true:=(by rw[<-apw HK];exact HF);simp only[z7] at hea;have CX:=atg hea.2;have HWY:Hid (∀x∈p.args,aW8 elems x/\bT (elems.length:Int) false x=true):=zH λx hx=>⟨aL0 (rZ x hx false (CX x hx).2 (aKs (CX x hx).2)) (CX x hx).1,(CX x hx).2⟩;have HCS:Hid (∀s,agU (Gf elems) p num u s↔akw (Gf elems) p.args (num+1) u s):=zH (HT4 rfl);clear hea CX h12 h3 lq gW lG HT4;go_enter func96,ntmps96;go_wp2_with fail;clear q0 q1 q2 q3 q4 q5 q6 q7 q8 q9 aF aG
 go_loopw [9,10,11] (λso sn si W=>∃(i:Nat) (ls:List (List Nat)) (oA:Option Addr) (a6D a6E:Nat),i<=n0/\so= (oA,a6D,a6E)/\sn= ((num+1+dZ (p.args.take i):Nat):Int)/\si= i/\Hid (SqI W w1 ls (oA,a6D,a6E)/\ls.Nodup/\∀s,s∈ls↔asy (Gf elems) p.args (num+1) u i s)/\Bw w1 W) (λ_ _ si _=>n0 - (intOf si).toNat)
 case atStart=>exact⟨0,[],none,0,0,zO,rfl,(by rw[List.take_zero,dZ];rfl),rfl,zH ⟨SqI.nil,.nil,λs=>⟨λh=>(by cases h),λh=>absurd h aQJ⟩⟩,j9 _ _⟩
 obtain⟨i,ls,oA,a6D,a6E,hi,rfl,rfl,rfl,HO,dU⟩:=hrel;have HBR:=zH dU;have nG:=zH (nK.seq dU);obtain⟨q0,q1,q2,q3,q4,q5,q6,q7,q8,q9,aF,aG⟩:=aj (ae aQ dU);clear dU;by_cases aN:i<n0
 rotate_left 1
 ·obtain rfl:i=n0:=zO;have hd:=zT2 ((i:Int)<(i:Int));have HPO:Hid (aGL (agU (Gf elems) p num u) w (.returned (oA,a6D,a6E)) wr):=zH ⟨_,ls,rfl,HO.1.a0T nK.size,HO.2.1,λs=>by rw[HO.2.2 s,HCS s,pR.out];exact aKq,nG.out⟩;go_wp2_with fail;go_ret;exact HPO
 have hd:=zT1 ((i:Int)<(n0:Int));obtain⟨b,off,px,v0,v1,v2,v3,v4,v5,v6,v7,v8,v9,v10,v11,HX,eG,z0,z1,z2,z3,z4,z5,z6,z7,z8,z9,nZ,og,dO⟩:=(lM.keepW nK).aQm (aAS.2.keepW nK) aN c0;obtain⟨yk,ymn,ymx,yel,yck,yns,ynl,ysp,yA1,yn1,yc1,yA2,yn2,yc2,ypr,yA0,yn0,yc0,fJ,-,vH,l9,-⟩:=aW eG.1;simp only[i7,and_true] at fJ;obtain⟨rfl,rfl,rfl,rfl,rfl,rfl,rfl,rfl,rfl,rfl,rfl,rfl⟩:=fJ;have hle:=aFE HX;have bZ:=aKw HX;obtain⟨nm,rY⟩:=zF (num+1+dZ (p.args.take i));have aXR:nm+dh px<=50:=(by have:=acC.out;omega);have HXW:=zH (HWY px (SK HX));have HCD:Hid (∀V,Bw w1 V->(V.cell? (w,11)=(A0,n0,c0)/\V.cell? (b,off+i*12)=yk/\V.cell? (b,off+i*12+1)=ymn/\V.cell? (b,off+i*12+2)=ymx/\V.cell? (b,off+i*12+3)=yel/\V.cell? (b,off+i*12+4)=yck/\V.cell? (b,off+i*12+5)=yns/\V.cell? (b,off+i*12+6)=ynl/\V.cell? (b,off+i*12+7)=ysp/\V.cell? (b,off+i*12+8)=(yA1,yn1,yc1)/\V.cell? (b,off+i*12+9)=(yA2,yn2,yc2)/\V.cell? (b,off+i*12+10)=ypr/\V.cell? (b,off+i*12+11)=(yA0,yn0,yc0))):=zH λV hV=>⟨(aj (ae aQ hV)).2.2.2.2.2.2.2.2.2.2.2,(hV.cell (j8 w1 _ z0)).trans z0,(hV.cell (j8 w1 _ z1)).trans z1,(hV.cell (j8 w1 _ z2)).trans z2,(hV.cell (j8 w1 _ z3)).trans z3,(hV.cell (j8 w1 _ z4)).trans z4,(hV.cell (j8 w1 _ z5)).trans z5,(hV.cell (j8 w1 _ z6)).trans z6,(hV.cell (j8 w1 _ z7)).trans z7,(hV.cell (j8 w1 _ z8)).trans z8,(hV.cell (j8 w1 _ z9)).trans z9,(hV.cell (j8 w1 _ nZ)).trans nZ,(hV.cell (j8 w1 _ og)).trans og⟩
 have ZU:Hid (∀W,Bw w1 W->Cl 38 #[.agg (o5 yk ymn ymx yel yck yns ynl ysp yA1 yn1 yc1 yA2 yn2 yc2 ypr yA0 yn0 yc0),(eA,en,ec),(alH,un,uc),nm,ymn,ymx] W (aGL (ajt (Gf elems) px nm px.mn px.mx u) W)):=zH λW hb=>by
  have h1:=HXW.1 nm aXR;rw[vH,l9] at h1;rw[vH,l9];exact h1 u W _ eA en ec alH un uc ⟨eG.1.keepW hb,eG.2.keepW hb,HL.el.keepW (nK.seq hb)⟩ (HU.keepW (nK.seq hb)) JL huc
 have Ee:Hid (∀W,Bw w1 W->Cl 35 #[.agg (o5 yk ymn ymx yel yck yns ynl ysp yA1 yn1 yc1 yA2 yn2 yc2 ypr yA0 yn0 yc0),nm] W (ayL W w1 (aaj px nm) (nm+dh px))):=zH λW hb=>aKV _ px false HXW.2 _ W w1 nm hb.size (eG.1.below hb) zO;obtain⟨HNM,sV,a3x⟩:=zJ3 rY bZ aXR;rw[rY];clear eG vH l9 hle bZ rY z0 z1 z2 z3 z4 z5 z6 z7 z8 z9 nZ og;have hHeld:=HCD wr.drew HBR.drew;clear q0 q1 q2 q3 q4 q5 q6 q7 q8 q9 aF;go_wp2_with fail;clear aG;refine ah.stN HCD 21 ?_;refine ah.tk 0 hHeld ?_;refine ah.tk 1 hHeld ?_;refine ah.tk 2 hHeld ?_;refine ah.tk 3 hHeld ?_;refine ah.tk 4 hHeld ?_;refine ah.tk 5 hHeld ?_;refine ah.tk 6 hHeld ?_;refine ah.tk 7 hHeld ?_;refine ah.tk 8 hHeld ?_;refine ah.tk 9 hHeld ?_;refine ah.tk 10 hHeld ?_;refine ah.tk 11 hHeld ?_;refine ah.tk 12 hHeld ?_;refine ah.tk 13 hHeld ?_;refine ah.tk 14 hHeld ?_;refine ah.tk 15 hHeld ?_;refine ah.tk 16 hHeld ?_;refine ah.tk 17 hHeld ?_;refine ah.tk 18 hHeld ?_;refine ah.tk 19 hHeld ?_;refine ah.on 20 λK hK=>?_;go_simp;refine (ZU wr.drew HBR.drew).mono ?_;rintro e wD ⟨vL,L,rfl,hsL,hnL,hmL,hbL⟩;obtain⟨lA,lc,hvL⟩:=hsL.form;obtain⟨ln,hlL⟩:=zF L.length;rw[hlL] at hvL;subst hvL;have a1L:Hid (Bw w1 wD):=zH (HBR.drew.seq hbL);obtain⟨Td,Du,Pv,AO,UA⟩:=zJ5 hsL hnL hmL hbL hlL.symm;clear hsL hnL hmL hbL hlL hHeld;refine di hK (λ_=>HCD _ a1L) ?_;clear hK K;refine ah.oe 21 ?_;refine ah.dn ?_
 have HGL:Hid (∀s∈L,Gd un s):=zH λs hs=>by
  have h1:=(Pv s).1 hs;have h2:=a3x.out;exact⟨by rw[aYV h1,HUL.out],λx hx=>by have:=aYX h1 x hx;omega⟩
 have hlb:ln<=6250000:=(by rw[UA.out];exact a4K HUN Du HGL);have HI0:Hid (WyI w1 wr.drew wD wD ls (oA,a6D,a6E) (λs=>asy (Gf elems) p.args (num+1) u i s\/∃j,j<0/\L[j]?=some s)):=zH ⟨HO.1.below ((j9 _ _).drew.seq AO),HO.2.1,λs=>(HO.2.2 s).trans ⟨.inl,λh=>h.elim id λ⟨_,h,_⟩=>absurd h (Nat.not_lt_zero _)⟩,λq hq=>.inl (HO.1.block_lt hq).2,a1L,λ_ _ _=>rfl,zR _⟩;go_wp2_with fail
 go_loopw [9,13] (λso sk W=>∃(a:Nat) (ls2:List (List Nat)) (oA:Option Addr) (a6D a6E:Nat),a<=ln/\so= (oA,a6D,a6E)/\sk= a/\Hid (WyI w1 wr.drew wD W ls2 (oA,a6D,a6E) (λs=>asy (Gf elems) p.args (num+1) u i s\/∃j,j<a/\L[j]?=some s))) (λ_ sk _=>ln - (intOf sk).toNat)
 case atStart=>exact⟨0,ls,oA,a6D,a6E,zO,rfl,rfl,HI0⟩
 rename World=>wo
 obtain⟨a,ls2,oA,a6D,a6E,ha,rfl,rfl,HA⟩:=hrel;by_cases aWo:a<ln
 ·have hda:=zT1 ((a:Int)<(ln:Int));obtain⟨fb,fo,fl,aLb,fm,fd,HXF,hfo,hf1,hf2,x0,a5R⟩:=Td.at_ aWo;have ve:=HA.same;have x1:wo.cell? (fb,fo+a)=(aLb,fm,fd):=(ZS (w:=wD) (w':=wo) (ve fb hf1 hf2)).trans x0;have aWq:ax wo wr.drew 3 1 aV fl (aLb,fm,fd):=hfo.bu λq hq=>ve q (hfo.block_lt hq).1 (hfo.block_lt hq).2;have gf:=HGL fl (SK HXF);have BL:fm=fl.length:=aWq.a0U.1
  have aDg:Hid (Cl 95 #[(oA,a6D,a6E),(aLb,fm,fd)] wo λe w'=>∃v',e= .returned v'/\SqI w' w1 (ayI fl ls2) v'/\aVy (oA,a6D,a6E) v' wo w'):=zH (by
   have hl:∀x∈ls2,Gd un x:=λx hx=>by
    rcases (HA.mem x).1 hx with h | ⟨j,_,h⟩
    ·have h2:=aT2 acC h;rwa [<-HUL.out] at h2
    exact HGL x (SK h)
   have h4:=HUN.out;have h5:=a4K h4 HA.nd hl;have h7:=HA.bel.size;have h8:w1.heap.size<=wr.drew:=HBR.size
   exact aZ5 ls2 fl oA a6D a6E aLb fm fd wo w1 HA.sq (aWq.a0T h8) zO (by rw[BL,gf.1];omega) (λx hx=>by rw[(hl x hx).1];omega) h7)
  clear hfo hf1 hf2 x0 ve aWq gf BL;go_wp2_with fail;refine aDg.mono ?_;rintro e w6 ⟨v6,rfl,aOZ,aO0⟩;obtain⟨zA,zc,hz6⟩:=aOZ.form;obtain⟨zn,hzn⟩:=zF ((ayI fl ls2).length);rw[hzn] at hz6;subst hz6
  have HZ:Hid (WyI w1 wr.drew wD w6 (ayI fl ls2) (zA,zn,zc) (λs=>asy (Gf elems) p.args (num+1) u i s\/∃j,j<a+1/\L[j]?=some s)):=zH ((HA.add (j9 _ _) aOZ aO0).congr λs=>by
   constructor
   ·rintro ((h | ⟨j,h1,h2⟩) | h)
    ·exact .inl h
    ·exact .inr ⟨j,zO,h2⟩
    exact .inr ⟨a,zO,by rw[h];exact HXF⟩
   rintro (h | ⟨j,h1,h2⟩)
   ·exact .inl (.inl h)
   by_cases e:j=a
   ·subst e;exact .inr (zI (h2.symm.trans HXF))
   exact .inl (.inr ⟨j,zO,h2⟩))
  clear aOZ aO0 hzn;go_wp2_with fail;go_roundw
  case rel=>exact⟨a+1,ayI fl ls2,zA,zn,zc,zO,rfl,by go_num,HZ⟩
  simp[intOf];omega
 obtain rfl:a=ln:=zO;have hda:=zT2 ((a:Int)<(a:Int));have HBO:Hid (Bw w1 wo):=zH HA.bel;have hcd:=HCD wo HBO;go_wp2_with fail;refine (Ee wo HBO).mono ?_;rintro e w7 ⟨vv,xs,rfl,-,-,eP⟩
 have DZ:Hid (SqI w7 w1 ls2 (oA,a6D,a6E)/\ls2.Nodup/\∀s,s∈ls2↔asy (Gf elems) p.args (num+1) u (i+1) s):=zH ⟨HA.sq.below eP,HA.nd,λs=>(HA.mem s).trans (by
  rw[aQK HX,HNM.out,<-Pv s,UA.out];refine or_congr Iff.rfl ⟨λ⟨j,_,h⟩=>SK h,λh=>?_⟩;obtain⟨j,hj⟩:=List.mem_iff_getElem?.1 h
  exact⟨j,(z4.1 hj).1,hj⟩)⟩
 have oQ:Hid (Bw w1 w7):=zH (HBO.seq eP);have Ky:Hid (((nm+dh px:Nat):Int)=((num+1+dZ (p.args.take (i+1)):Nat):Int)):=zH (by rw[sV.out,<-HNM.out,Nat.add_assoc,Nat.add_assoc]);clear eP hcd;go_wp2_with fail;go_roundw
 case rel=>exact⟨i+1,ls2,oA,a6D,a6E,zO,rfl,by rw[<-Ky.out,Int.natCast_add],by go_num,DZ,oQ⟩
 simp[intOf];omega
theorem aX9:∀(d:Nat),d<1000->∀(x:aJ) (cs:List Value) (w:World) (F:Nat->Prop),au w F (aZ x) cs->
 Cl 37 #[.agg cs.toArray,.int .i64 (d:Nat)] w λe w'=>ayD e/\Bw w w':=by
 intro d
 induction d with
 | zero=>
   intro hd x cs w F hr;obtain⟨k,mn,mx,el,ck,ns,nl,sp,A1,n1,c1,A2,n2,c2,pr,A,n,c,rfl,-⟩:=aW hr;obtain⟨w1,bI,S1,nC,ai⟩:=zP1 w k mn mx el ck ns nl sp A1 n1 c1 A2 n2 c2 pr A n c;have q0:=aj S1;obtain⟨b0,jV⟩:=zF (decide (2<mn));clear S1 hr;go_enter func37,ntmps37;cases b0
   all_goals
    go_wp2_with fail;go_ret;exact⟨⟨_,rfl⟩,ai⟩
 | succ d ih=>
   intro hd x cs w F hr;have bH:=au.here _ _ (jK _) hr;obtain⟨k,mn,mx,el,ck,ns,nl,sp,A1,n1,c1,A2,n2,c2,pr,A,n,c,rfl,-,-,-,-,-,-,hn,aI⟩:=aW bH;have HI:=zH (ih zO);clear ih hr bH;have kK:bM w (· <w) 12 (x.args.map aZ) A n:=aI;obtain⟨w1,bI,S1,nC,ai⟩:=zP1 w k mn mx el ck ns nl sp A1 n1 c1 A2 n2 c2 pr A n c;obtain⟨q0,aQ,nK,lM⟩:=zK4 (aj S1) (zH S1) (zH ai) (zH kK);clear S1 aI kK ai;have hdp:decide ((d:Int)+1=0)=false:=decide_eq_false zO;have aD7:(((d:Int)+1)==0)=false:=zS1;obtain⟨b0,jV⟩:=zF (decide (2<mn));obtain⟨b2,jc⟩:=zF (decide ((4:Int)<(n:Int)));go_enter func37,ntmps37;cases b0
   case true=>
    go_wp2_with fail;go_ret;exact⟨⟨_,rfl⟩,nK⟩
   cases b2
   case true=>
    go_wp2_with fail;go_ret;exact⟨⟨_,rfl⟩,nK⟩
   go_wp2_with fail
   go_loopw [5] (λsi wr=>∃(i:Nat),i<=n/\si= i/\Bw w1 wr)
    (λsi _=>n - (intOf si).toNat)
   case atStart=>exact⟨0,zO,rfl,j9 _ _⟩
   obtain⟨i,hi,rfl,dU⟩:=hrel;clear q0;have q0:=aj (ae aQ dU);have aH:=nK.seq dU;obtain⟨HBR,nG⟩:=zJ2 dU aH;by_cases aN:i<n
   ·have gJ:=zT1 (i<n);obtain⟨b,off,px,v0,v1,v2,v3,v4,v5,v6,v7,v8,v9,v10,v11,HX,eG,z0,z1,z2,z3,z4,z5,z6,z7,z8,z9,nZ,og,dO⟩:=(lM.below aH).DW aN c;have RY:=zH (HI px _ wr _ eG);clear eG dU aH;go_wp2_with fail;refine RY.mono ?_;rintro e w5 ⟨⟨b5,rfl⟩,bg⟩;clear q0 z0 z1 z2 z3 z4 z5 z6 z7 z8 z9 nZ og;cases b5
    ·go_wp2_with fail;go_roundw
     case rel=>exact⟨_,_,_,_,_,_,_,_,_,_,_,_,_,_,_,_,_,⟨i+1,zO,by go_num,HBR.seq bg⟩,rfl⟩
     simp[intOf];omega
    go_wp2_with fail;go_ret;exact⟨⟨_,rfl⟩,nG.seq bg⟩
   have gJ:=zT2 (i<n);go_wp2_with fail;go_ret;exact⟨⟨_,rfl⟩,aH⟩
theorem aQ6{w:List Nm}{ls:List (List Nat)}(hc:kN elems p=0)(h5:p.kind≠5)(hl:w.length<=300)(hv:w.any oZ=false)(hi:(aaV p elems).is=true)(he:(aaV p elems).e=0)(hn:ls.Nodup)(hm:∀s,s∈ls↔ajt (Gf elems) p 0 p.mn p.mx w s){b:Bool}{K:Nat}(h1:Fp p elems w=(b,K,0)):
 b=decide (0<ls.length)/\ls.length<=1/\∀s∈ls,s=atL p elems w K:=by
 have key:∀s∈ls,b=true/\s=atL p elems w K:=λs hs=>by
  obtain⟨W,hW,hmt,BB⟩:=(hm s).1 hs;obtain⟨e1,e2⟩:=aYC h5 hi he hl hv hW hmt;rw[h1] at e1;have e3:=(Prod.mk.inj (Prod.mk.inj e1).2).1;refine⟨(Prod.mk.inj e1).1,?_⟩;rw[e3,<-BB,<-e2];rfl
 have hb:b=decide (0<ls.length):=by
  cases ls with
  | nil=>
    cases b with
    | false=>rfl
    | true=>
      obtain⟨W,hW,hmt⟩:=(aUg hc h5 hl hv).1 (by rw[h1]);exact absurd ((hm _).2 ⟨W,hW,hmt,rfl⟩) zP
  | cons s l=>rw[(key s zP).1];simp
 refine⟨hb,?_,λs hs=>(key s hs).2⟩
 match ls,hn,key with
 | [],_,_=>simp
 | [_],_,_=>simp
 | s::s'::l,hn,key=>
   have e1:=(key s zP).2;have e2:=(key s' zP).2;rw[e1,e2] at hn;simp at hn
theorem a3W(p:aJ)(elems:List (List Nm))(wd:List Nm)(cs:List Value)(w:World)(eA:Option Addr)(en ec:Nat)(alH:Option Addr)(un uc:Nat)(hr:au w (· <w) (aZ p) cs)(Yw:aem w p cs)(he:bM w (· <w) 1 (elems.map nU) eA en)(jR:en<6000000000000)
 (hu:aY w (· <w) 2 dK wd alH un) (JL:un<6000000000000) (huc:un<=uc) (hT:Tab w):
 Rt 9 #[.agg cs.toArray,(eA,en,ec),(alH,un,uc)] w true:=by
 have HLY:Hid (∀W,Bw w W->aGK W p elems cs eA en):=zH λW hW=>⟨hr.keepW hW,Yw.keepW hW,he.keepW hW⟩;obtain⟨k,mn,mx,el,ck,ns,nl,sp,A1,n1,c1,A2,n2,c2,pr,A0,n0,c0,rfl,pz,aYy,aYz,-⟩:=aW hr;obtain⟨w1,bI,S1,nC,ai⟩:=zP1 w k mn mx el ck ns nl sp A1 n1 c1 A2 n2 c2 pr A0 n0 c0;have q0:=aj S1;have hlen:un=wd.length:=hu.1;obtain⟨E,hE⟩:=zF (kN elems p);obtain⟨aN5,hvw⟩:=zF ((!wd.any oZ));have aNZ:Hid (∀W,Bw w W->Cl 11 #[.agg (o5 k mn mx el ck ns nl sp A1 n1 c1 A2 n2 c2 pr A0 n0 c0),(eA,en,ec)] W λe w'=>ayD e/\Bw W w'):=zH λW hb=>ajb p elems _ W _ eA en ec (hr.below hb) (he.keepW hb) jR;have aX8:Hid (∀W,Bw w W->Cl 32 #[.agg (o5 k mn mx el ck ns nl sp A1 n1 c1 A2 n2 c2 pr A0 n0 c0)] W λe w'=>ayD e/\Bw W w'):=zH λW hb=>aFS p _ W _ (hr.below hb);have aN0:Hid (∀W,Bw w W->Rt 20 #[(alH,un,uc)] W aN5):=zH λW hb=>(by rw[<-hvw];exact amv wd alH un uc W _ (hu.keepW hb) JL);have aD9:Hid (∀W,Bw w W->Rt 14 #[.agg (o5 k mn mx el ck ns nl sp A1 n1 c1 A2 n2 c2 pr A0 n0 c0),(eA,en,ec)] W E):=zH λW hb=>(by rw[<-hE];exact acN elems p _ eA en ec W _ _ (hr.below hb) (he.below hb) jR);have a3X:Hid (∀W,Bw w W->Cl 37 #[.agg (o5 k mn mx el ck ns nl sp A1 n1 c1 A2 n2 c2 pr A0 n0 c0),(4:Int)] W λe w'=>ayD e/\Bw W w'):=zH λW hb=>aX9 4 zD p _ W _ (hr.below hb);have aTQ:Hid (∀W,Bw w W->Rt 33 #[] W true):=zH λW hb=>aXZ W (hT.below hb);obtain⟨⟨is,ca,cb,wr0,⟨na,nb⟩,er⟩,hR⟩:∃R,aaV p elems=R:=⟨_,rfl⟩
 have aWS:Hid (∀W,Bw w W->Cl 34 #[.agg (o5 k mn mx el ck ns nl sp A1 n1 c1 A2 n2 c2 pr A0 n0 c0),(eA,en,ec)] W λe w'=>(∃A n c,e= .returned (.tuple #[is,.agg #[ca,cb,.slice A n c,na,nb],er]))/\Bw W w'):=zH λW hb=>(aVC p elems _ W eA en ec (hr.keepW hb) (he.keepW hb) jR (hT.below hb)).mono λe w' ⟨A,n,c,h1,_,_,_,h4⟩=>by
  rw[hR] at h1;exact⟨⟨A,n,c,h1⟩,h4⟩
 obtain⟨b,K,hM⟩:∃b K,kN elems p=0->un<=4->aN5=true->Fp p elems wd=(b,K,0)/\K<=wd.length/\∀i,i<K->(TG p elems (wd.take i)).2.2=0:=by
  by_cases hh:kN elems p=0/\un<=4/\aN5=true
  ·obtain⟨b,K,h1,h2,h3⟩:=aUh hh.1 (w:=wd) zO (by have:=hh.2.2;rw[<-hvw] at this;simpa using this);exact⟨b,K,λ_ _ _=>⟨h1,h2,h3⟩⟩
  exact⟨false,0,λa c d=>absurd ⟨a,c,d⟩ hh⟩
 have HM:=zH hM
 have aN3:Hid (kN elems p=0->un<=4->aN5=true->∀W,Bw w W->Rt 23 #[.agg (o5 k mn mx el ck ns nl sp A1 n1 c1 A2 n2 c2 pr A0 n0 c0),(eA,en,ec),(alH,un,uc)] W (.tuple #[b,K,(0:Int)])):=zH λh1 h2 h3 W hb=>by
  have h:=Sz p elems wd _ W eA en ec alH un uc (hr.keepW hb) (he.keepW hb) jR (hu.keepW hb) JL (hT.below hb);rw[(hM h1 h2 h3).1] at h;exact h
 have aYA:Hid (kN elems p=0->un<=4->aN5=true->is=true->er=0->∀W,Bw w W->Cl 39 #[.agg (o5 k mn mx el ck ns nl sp A1 n1 c1 A2 n2 c2 pr A0 n0 c0),(eA,en,ec),(alH,un,uc)] W λe w'=>∃v,e= .returned (.tuple #[v,(0:Int)])/\ax w' W.heap.size 3 1 aV (atL p elems wd K) v/\Bw W w'):=zH λh1 h2 h3 h4 h5 W hb=>by
  have hi:(aaV p elems).is=true:=(by rw[hR];exact h4);have h0:(aaV p elems).e=0:=(by rw[hR];exact h5);have hm:=hM h1 h2 h3;exact aWU p elems wd _ W eA en ec alH un uc K b (hr.keepW hb) (he.keepW hb) jR (hu.keepW hb) huc zO (by rw[hlen];exact hm.2.1) (hT.below hb) (aFM hi h0).1 hm.1 hi h0 (by have:=af6 (J5 h1).2.2.1;omega) hm.2.2
 have aYB:Hid (kN elems p=0->p.kind≠5->un<=4->∀W,Bw w W->Cl 38 #[.agg (o5 k mn mx el ck ns nl sp A1 n1 c1 A2 n2 c2 pr A0 n0 c0),(eA,en,ec),(alH,un,uc),(0:Int),mn,mx] W (aGL (ajt (Gf elems) p 0 p.mn p.mx wd) W)):=zH λh1 h5 h2 W hb=>by
  obtain⟨-,-,xQ,gX,aKy,-⟩:=J5 h1;have h:=aL0 (a3w elems p true aKy h5) gX 0 (by have:=af6 xQ;omega) wd W _ eA en ec alH un uc (HLY W hb) (hu.keepW hb) h2 huc;have e1:Value.int .i64 p.mn= mn:=(by rw[aYy]);have e2:Value.int .i64 p.mx= mx:=(by rw[aYz]);rw[e1,e2] at h;exact h
 have HFN:Hid (kN elems p=0->p.kind≠5->un<=4->aN5=true->is=true->er=0->∀ls:List (List Nat),ls.Nodup->(∀s,s∈ls↔ajt (Gf elems) p 0 p.mn p.mx wd s)->b=decide (0<ls.length)/\ls.length<=1/\∀s∈ls,s=atL p elems wd K):=zH λh1 h5 h2 h3 h4 h0 ls hn hm=>
  aQ6 h1 h5 zO (by rw[<-hvw] at h3;simpa using h3) (by rw[hR];exact h4) (by rw[hR];exact h0) hn hm (hM h1 h2 h3).1
 have HUE:Hid (kN elems p=0->er=0\/er=3):=zH λh1=>by
  have:=aS5 (p:=p) (elems:=elems) (.inl h1);rw[hR] at this;exact this
 obtain⟨aQ,nK,HEE,MI⟩:=zJ4 S1 ai hE pz;have HW4:Hid (wd.length<6000000000000):=zH zO;clear hr Yw he hu hT S1 ai hE pz aYy aYz hR hM HM hvw HLY hlen;go_enter func9,ntmps9;go_upto_region 1 with fail
 go_cut [47] (λs47 W=>∃g:Bool,s47= g/\Hid (g=false->k≠5/\E=0/\un<=4/\aN5=true)/\Bw w1 W)
 case first=>
  go_wp2_with fail;refine (aNZ _ nK).mono ?_;rintro e w2 ⟨⟨b,rfl⟩,ag⟩;cases b
  rotate_left 1
  ·go_wp2_with fail;go_meet;exact⟨true,rfl,zH (λh=>by cases h),ag⟩
  clear q0;have q0:=aj (ae aQ ag);go_wp2_with fail;refine (aX8 _ (nK.seq ag)).mono ?_;rintro e w3 ⟨⟨b,rfl⟩,az⟩;have Ep:=ag.seq az;cases b
  rotate_left 1
  ·go_wp2_with fail;go_meet;exact⟨true,rfl,zH (λh=>by cases h),Ep⟩
  clear q0;have q0:=aj (ae aQ Ep);by_cases hu4:4<un
  ·have hd:=zT1 ((4:Int)<(un:Int));go_wp2_with fail;go_meet;exact⟨true,rfl,zH (λh=>by cases h),Ep⟩
  have hd:=zT2 ((4:Int)<(un:Int));go_wp2_with fail;refine (aN0 _ (nK.seq Ep)).mono ?_;rintro e w4 ⟨rfl,aX⟩;have wU:=Ep.seq aX;clear q0;have q0:=aj (ae aQ wU);cases aN5
  ·go_wp2_with fail;go_meet;exact⟨true,rfl,zH (λh=>by cases h),wU⟩
  by_cases h5:k=5
  ·subst h5;go_wp2_with fail;go_meet;exact⟨true,rfl,zH (λh=>by cases h),wU⟩
  have PL:(k==5)=false:=(by simpa using h5);have aC1:decide (k=5)=false:=(by simpa using h5);go_wp2_with fail;refine (aD9 _ (nK.seq wU)).mono ?_;rintro e w5 ⟨rfl,bg⟩;have ES:=wU.seq bg;clear q0;have q0:=aj (ae aQ ES);by_cases h0:E=0
  rotate_left 1
  ·have jV:(E !=0)=true:=(by simpa using h0);have gJ:decide (E=0)=false:=(by simpa using h0);have aQd:(E==0)=false:=(by simpa using h0);go_wp2_with fail;go_meet;exact⟨true,rfl,zH (λh=>by cases h),ES⟩
  have lq:=h5;subst h0;go_wp2_with fail;refine (a3X _ (nK.seq ES)).mono ?_;rintro e w6 ⟨⟨b,rfl⟩,dQ⟩;have aiA:=ES.seq dQ;cases b
  rotate_left 1
  ·go_wp2_with fail;go_meet;exact⟨true,rfl,zH (λh=>by cases h),aiA⟩
  go_wp2_with fail;go_meet;exact⟨false,rfl,zH (λ_=>⟨lq,(by first | rfl | trivial),zO,(by first | rfl | trivial)⟩),aiA⟩
 obtain⟨wb,hwb⟩:=zE wc;subst hwb;obtain⟨g,rfl,HG,CZ⟩:=hcut;have aH:=nK.seq CZ;clear q0;have q0:=aj (ae aQ CZ);cases g
 rotate_left 1
 ·go_wp2_with fail;refine (aTQ _ aH).mono ?_;rintro e w3 ⟨rfl,az⟩;go_wp2_with fail;go_ret;exact⟨rfl,aH.seq az⟩
 obtain⟨lq,hE0,hu4,hvt⟩:=HG rfl;have aA6:kN elems p=0:=(by rw[HEE.out];exact hE0);have h5:p.kind≠5:=(by rw[MI.out];exact lq);obtain⟨k23,k38,k39,kfn,hue,nG⟩:=zK6 (zH (aN3 aA6 hu4 hvt)) (zH (aYB aA6 h5 hu4)) (zH (aYA aA6 hu4 hvt)) (zH (HFN aA6 h5 hu4 hvt)) (HUE aA6) (zH aH);clear aN3 aYB aYA HFN HUE HG aA6 h5 lq hE0 hu4 hvt;go_wp2_with fail;refine (aWS _ aH).mono ?_;rintro e w3 ⟨⟨A,n,c,rfl⟩,az⟩;obtain⟨w4,vV,S4,IX,aX⟩:=af w3 (Zc #[ca,cb,(A,n,c),na,nb] 63);have xW:=CZ.seq (az.seq aX);have aCY:=zH xW;have ah7:Hid (Bw w w4):=zH (nK.seq xW);clear S4 q0 IX;have q0:=aj (ae aQ xW);clear xW az aX aH CZ
 rcases hue with rfl | rfl
 rotate_left 1
 ·go_wp2_with fail;refine (aTQ _ ah7).mono ?_;rintro e w5 ⟨rfl,bg⟩;go_wp2_with fail;go_ret;exact⟨rfl,ah7.seq bg⟩
 go_wp2_with fail;refine (k38 _ ah7).mono ?_;rintro e w5 ⟨v5,ls,rfl,hsq,AX,L8,bg⟩;obtain⟨lA,lc,hv5⟩:=hsq.form;obtain⟨ln,Zz⟩:=zF ls.length;rw[Zz] at hv5;subst hv5;obtain⟨HSQ,HND,HMM,UA⟩:=zJ4 hsq AX L8 Zz;have aY2:Hid (Bw w1 w5):=zH (aCY.seq bg);have aoj:Hid (Bw w w5):=zH (ah7.seq bg);clear hsq AX L8 Zz bg q0;have q0:=aj (ae aQ aY2);cases is
 ·go_wp2_with fail;refine (aTQ _ aoj).mono ?_;rintro e w6 ⟨rfl,dQ⟩;go_wp2_with fail;go_ret;exact⟨rfl,aoj.seq dQ⟩
 obtain⟨f1,f2,f3⟩:=kfn (by first | rfl | trivial) (by first | rfl | trivial) ls HND HMM;rw[UA.out] at f1 f2;have HF3:=zH f3;go_wp2_with fail;refine (k39 (by first | rfl | trivial) (by first | rfl | trivial) _ aoj).mono ?_;rintro e w6 ⟨v6,rfl,ho6,dQ⟩;obtain⟨tA,tc,hv6,zW,-,-⟩:=ho6.row (λx=>rfl) zD;obtain⟨tn,htn⟩:=zF ((atL p elems wd K).length);rw[htn] at hv6;subst hv6;have HT6:=zH ho6.a0U;have aC2:Hid (Bw w1 w6):=zH (aY2.seq dQ);have GG:Hid (Bw w w6):=zH (aoj.seq dQ);have a3Y:=zH dQ;clear ho6 zW htn dQ q0 f3;have q0:=aj (ae aQ aC2);go_wp2_with fail;refine (k23 _ GG).mono ?_;rintro e w7 ⟨rfl,eP⟩;have aY3:Hid (Bw w w7):=zH (GG.seq eP);have ah8:=zH eP;clear q0 eP k23 k38 k39 kfn;have a3Z:ln=0\/ln=1:=zO
 rcases a3Z with rfl | rfl
 ·obtain rfl:b=false:=(by rw[f1];rfl);clear f1 f2;go_wp2_with fail;refine (aTQ _ aY3).mono ?_;rintro e w8 ⟨rfl,eX⟩;go_wp2_with fail;go_ret;exact⟨rfl,aY3.seq eX⟩
 obtain rfl:b=true:=(by rw[f1];rfl);clear f1 f2;obtain⟨bb,off,l,B,m,d,HX,ho,o8,yx,x0,dO⟩:=(HSQ.below (a3Y.seq ah8)).at_ (i:=0) zO;have hl:=HF3 l (SK HX);subst hl;have jb:=SK HX;have hlw:(atL p elems wd K).length<6000000000000:=(by rw[aYV ((HMM _).1 jb)];exact HW4);obtain⟨t1,t2⟩:=HT6.out;obtain⟨g1,g2⟩:=ho.a0U;have hsi:=adE _ _ _ _ tn m tc d w7 _ _ (by rw[t1];exact t2.below ah8) (by rw[g1];exact g2) (by rw[t1];exact hlw);rw[avP.2 rfl] at hsi;have HSI:=zH hsi;have amx:∀W,(Instr.indexAt 49 (lA,1,lc) (0:Int)).run prog W= .ok (bb,off) W:=λW=>dO W;have x1:w7.cell? (bb,off)=(B,m,d):=x0;clear hsi g1 g2 t1 t2 hlw jb dO x0 ho o8 yx;go_wp2_with fail;refine HSI.mono ?_;rintro e w8 ⟨rfl,eX⟩;go_wp2_with fail;refine (aTQ _ (aY3.seq eX)).mono ?_;rintro e w9 ⟨rfl,uF⟩;go_wp2_with fail;go_ret;exact⟨rfl,aY3.seq (eX.seq uF)⟩
