import Derived.Test.YtgmnnegfndpakaaGreatDoorH06
set_option maxHeartbeats 20000000
set_option maxRecDepth 100000
namespace Go.Proofs.YtgmnnegfndpakaaGreatDoor
open Go.RowKit Go.Proofs.Tryz
variable{w w':World}{F:Nat->Prop}{p:aJ}{cs:List Value}{v0 v1 v2 v3 v4 v5 v6 v7 v8 v9 v10 v11:Value}{l:List aJ}{A:Option Addr}{n i c r d m:Nat}{α:Type}{P:aJ->Prop}{R:Nat×Nat}
theorem aW(h:au w F (aZ p) cs):
 ∃k mn mx el ck ns nl s A1 n1 c1 A2 n2 c2 pr A n c,cs=[.int .i64 k,.int .i64 mn,.int .i64 mx,.int .i64 el,.int .i64 ck,.string ns,.string nl,.string s,.slice A1 n1 c1,.slice A2 n2 c2,.int .i64 pr,.slice A n c]/\
  p.kind=k/\p.mn=mn/\p.mx=mx/\p.el=el/\p.pr=pr/\dA w F p.cls [.int .i64 ck,.string ns,.string nl,.string s,.slice A1 n1 c1,.slice A2 n2 c2]/\n<6000000000000/\bM w F 12 (p.args.map aZ) A n:=by
 obtain⟨k,mn,mx,el,c,pr,args⟩:=p;obtain⟨c0,c1,c2,c3,c4,c5,A,n,cap,rfl,hc,hn,hr⟩:=abU h;obtain⟨ck,ns,nl,s,A1,n1,JE,A2,n2,Ui,e⟩:=hc.cells;simp only[i7,and_true] at e;obtain⟨rfl,rfl,rfl,rfl,rfl,rfl⟩:=e;exact⟨k,mn,mx,el,ck,ns,nl,s,A1,n1,JE,A2,n2,Ui,pr,A,n,cap,rfl,rfl,rfl,rfl,rfl,rfl,hc,hn,hr⟩
theorem aj{g:Nat}{t:TypeId}{fr:Nat×Nat}(h:w.heap[g]?=some (.cells #[v0,v1,v2,v3,v4,v5,v6,v7,v8,v9,v10,v11] t fr)):
 w.cell? g=v0/\w.cell? (g,1)=v1/\w.cell? (g,2)=v2/\w.cell? (g,3)=v3/\w.cell? (g,4)=v4/\w.cell? (g,5)=v5/\
 w.cell? (g,6)=v6/\w.cell? (g,7)=v7/\w.cell? (g,8)=v8/\w.cell? (g,9)=v9/\w.cell? (g,10)=v10/\w.cell? (g,11)=v11:=by
 refine⟨?_,?_,?_,?_,?_,?_,?_,?_,?_,?_,?_,?_⟩<;>rw[Ys w g _ _ _ _ h]<;>rfl
theorem cu.twelve{b off:Nat}(h:cu w b off [v0,v1,v2,v3,v4,v5,v6,v7,v8,v9,v10,v11]):
 w.cell? (b,off)=v0/\w.cell? (b,off+1)=v1/\w.cell? (b,off+2)=v2/\w.cell? (b,off+3)=v3/\w.cell? (b,off+4)=v4/\w.cell? (b,off+5)=v5/\
 w.cell? (b,off+6)=v6/\w.cell? (b,off+7)=v7/\w.cell? (b,off+8)=v8/\w.cell? (b,off+9)=v9/\w.cell? (b,off+10)=v10/\w.cell? (b,off+11)=v11:=
 ⟨h 0 _ rfl,h 1 _ rfl,h 2 _ rfl,h 3 _ rfl,h 4 _ rfl,h 5 _ rfl,h 6 _ rfl,h 7 _ rfl,h 8 _ rfl,h 9 _ rfl,h 10 _ rfl,h 11 _ rfl⟩
theorem bM.DW(h:bM w F 12 (l.map aZ) A n)(hi:i<n)(c:Nat):
 ∃b off p v0 v1 v2 v3 v4 v5 v6 v7 v8 v9 v10 v11,Hid (l[i]?=some p)/\au w F (aZ p) [v0,v1,v2,v3,v4,v5,v6,v7,v8,v9,v10,v11]/\
  w.cell? ⟨b,off+i*12,none⟩=some v0/\w.cell? ⟨b,off+i*12+1,none⟩=some v1/\w.cell? ⟨b,off+i*12+2,none⟩=some v2/\w.cell? ⟨b,off+i*12+3,none⟩=some v3/\
  w.cell? ⟨b,off+i*12+4,none⟩=some v4/\w.cell? ⟨b,off+i*12+5,none⟩=some v5/\w.cell? ⟨b,off+i*12+6,none⟩=some v6/\w.cell? ⟨b,off+i*12+7,none⟩=v7/\
  w.cell? ⟨b,off+i*12+8,none⟩=v8/\w.cell? ⟨b,off+i*12+9,none⟩=v9/\w.cell? (b,off+i*12+10)=v10/\w.cell? (b,off+i*12+11)=v11/\
  ∀W,(Instr.indexAt 27 (A,n,c) i).run prog W= .ok (b,off+i*12) W:=by
 obtain⟨b,off,e,cs,hA,he,fJ,hr⟩:=h.elem hi;rw[z17] at he
 cases hp:l[i]? with
 | none=>rw[hp] at he;cases he
 | some p=>
   rw[hp] at he;obtain rfl:aZ p=e:=(by simpa using he);obtain⟨k,mn,mx,el,ck,ns,nl,s,A1,n1,c1,A2,n2,c2,pr,A',n',c',rfl,-⟩:=aW hr;obtain⟨p0,p1,p2,p3,p4,p5,p6,p7,p8,p9,p10,p11⟩:=fJ.twelve;exact⟨b,off,p,_,_,_,_,_,_,_,_,_,_,_,_,zH rfl,hr,p0,p1,p2,p3,p4,p5,p6,p7,p8,p9,p10,p11,dN (P:=prog) 27 29 12 underlying27 (λw=>by kernel_rfl) hA n c i hi⟩
def bU(mn mx:Int):Bool:=decide (0<=mn)&&decide (mn<=20)&&(decide (mx= -1)||(decide (max mn 1<=mx)&&decide (mx<=20)))
def fD(k:Int):Bool:=decide (k=1)||decide (k=2)
theorem ND(p:aJ)(cs:List Value)(w:World)(F:Nat->Prop)(h:au w F (aZ p) cs):
 Rt 114 #[.agg cs.toArray] w (fD p.kind):=by
 obtain⟨k,mn,mx,el,ck,ns,nl,s,A1,n1,c1,A2,n2,c2,pr,A,n,c,rfl,hk,-⟩:=aW h;rw[hk];obtain⟨w1,bI,S1,lY,ai⟩:=zP1 w k mn mx el ck ns nl s A1 n1 c1 A2 n2 c2 pr A n c;obtain⟨q0,-⟩:=aj S1;clear S1 h hk;go_enter func114,ntmps114;go_wp2_with fail
 all_goals
  go_ret;refine⟨aK ?_,ai⟩;unfold fD;rw[m9];simp only[Bool.or_eq_true,gy,beq_iff_eq,true_iff];omega
theorem aeY(p:aJ)(cs:List Value)(w:World)(F:Nat->Prop)(h:au w F (aZ p) cs):
 Rt 51 #[.agg cs.toArray] w (bU p.mn p.mx):=by
 obtain⟨k,mn,mx,el,ck,ns,nl,s,A1,n1,c1,A2,n2,c2,pr,A,n,c,rfl,-,vH,l9,-⟩:=aW h;rw[vH,l9];obtain⟨w1,bI,S1,lY,ai⟩:=zP1 w k mn mx el ck ns nl s A1 n1 c1 A2 n2 c2 pr A n c;obtain⟨-,q1,q2,-⟩:=aj S1;clear S1 h vH l9;go_enter func51,ntmps51;go_wp2_with fail
 all_goals
  go_ret;refine⟨aK ?_,ai⟩;unfold bU;rw[m9];simp only[z7,Bool.or_eq_true,gy,b6,true_iff,false_iff];omega
def Wy(k:Int)(ns nl s:ByteArray)(n n':Nat):Bool:=decide (k=0)&&(eqS ns ⟨#[]⟩&&eqS nl ⟨#[]⟩)&&s.toList.isEmpty&&decide (n=0)&&decide (n'=0)
def qm:aT->Bool | .mk k ns nl s ex ar=>Wy k ns nl s ex.length ar.length
theorem abX(cl:aT)(cs:List Value)(w:World)(F:Nat->Prop)(h:dA w F cl cs):
 Rt 103 #[.agg cs.toArray] w (qm cl):=by
 obtain⟨k,ns,nl,s,ex,ar⟩:=cl;obtain⟨A,n,c,A',n',c',rfl,hn,CO,hr,Aq⟩:=h.form;have hB:qm (.mk k ns nl s ex ar)=Wy k ns nl s n n':=(by rw[hr.len,Aq.len];rfl);rw[hB];obtain⟨w1,bI,S1,lY,ai⟩:=af w (Zc #[k,ns,nl,s,(A,n,c),(A',n',c')] 26);have q0:=gG S1;obtain⟨en,jR⟩:=zF ((eqS ns ⟨#[]⟩&&eqS nl ⟨#[]⟩));have hq:∀W,(binOp .eql 23 (.agg #[ns,nl]) (.agg #[.string ⟨#[]⟩,.string ⟨#[]⟩])).run prog W= .ok en W:=λW=>(by rw[nO,jR]);have WA:=zH jR;clear S1 h hr Aq jR hB;go_enter func103,ntmps103;go_wp2_with fail
 all_goals
  go_ret;refine⟨aK ?_,ai⟩;unfold Wy;rw[WA.out];clear WA hq;rw[m9]
  first | (simp[*];done) | (simp[*];omega)
theorem Uj(cl:aT)(cs:List Value)(w:World)(F:Nat->Prop)(h:dA w F cl cs):
 Rt 116 #[.agg cs.toArray] w (qm cl):=by
 obtain⟨k,ns,nl,s,ex,ar⟩:=cl;obtain⟨A,n,c,A',n',c',rfl,hn,CO,hr,Aq⟩:=h.form;have hB:qm (.mk k ns nl s ex ar)=Wy k ns nl s n n':=(by rw[hr.len,Aq.len];rfl);rw[hB];obtain⟨w1,bI,S1,lY,ai⟩:=af w (Zc #[k,ns,nl,s,(A,n,c),(A',n',c')] 26);have q0:=gG S1;obtain⟨en,jR⟩:=zF ((eqS ns ⟨#[]⟩&&eqS nl ⟨#[]⟩));have hq:∀W,(binOp .eql 23 (.agg #[ns,nl]) (.agg #[.string ⟨#[]⟩,.string ⟨#[]⟩])).run prog W= .ok en W:=λW=>(by rw[nO,jR]);have WA:=zH jR;clear S1 h hr Aq jR hB;go_enter func116,ntmps116;go_wp2_with fail
 all_goals
  go_ret;refine⟨aK ?_,ai⟩;unfold Wy;rw[WA.out];clear WA hq;rw[m9]
  first | (simp[*];done) | (simp[*];omega)
mutual
def aem(w:World):aJ->List Value->Prop
 | .mk _ _ _ _ _ _ args,cs=>∃A n cap,cs[11]?=some (.slice A n cap)/\n<=cap/\∀b off,A=some ⟨b,off,none⟩->aau w args b off
def aau(w:World):List aJ->Nat->Nat->Prop
 | [],_,_=>True
 | p::l,b,off=>(∃cs,cu w b off cs/\cs.length=12/\aem w p cs)/\aau w l b (off+12)
end
mutual
theorem aem.bu(hb:Bw w w'):∀(p:aJ) (cs:List Value),aem w p cs->aem w' p cs
 | .mk _ _ _ _ _ _ args,cs,h=>by
   rw[aem] at h ⊢;obtain⟨A,n,cap,h1,h2,h3⟩:=h;exact⟨A,n,cap,h1,h2,λb off e=>aau.bu hb args b off (h3 b off e)⟩
theorem aau.bu(hb:Bw w w'):∀(l:List aJ) (b off:Nat),aau w l b off->aau w' l b off
 | [],_,_,_=>by rw[aau];trivial
 | p::l,b,off,h=>by
   rw[aau] at h ⊢;obtain⟨⟨cs,h1,h2,h3⟩,h4⟩:=h
   match cs,h2,h1,h3 with
   | v::r,h2,h1,h3=>exact⟨⟨v::r,h1.keep (hb.block b h1.lt),h2,aem.bu hb p _ h3⟩,aau.bu hb l b (off+12) h4⟩
end
theorem aau.at:∀{l:List aJ} {b off i:Nat} {p:aJ} {vs:List Value},aau w l b off->l[i]?=p->vs.length=12->cu w b (off+i*12) vs->aem w p vs
 | [],_,_,_,_,_,_,h,_,_=>by cases h
 | q::l,b,off,0,p,vs,h,hp,hl,hc=>by
   rw[aau] at h;obtain⟨⟨cs,h1,h2,h3⟩,-⟩:=h;obtain rfl:q=p:=zI hp;rw[Nat.zero_mul,Qf] at hc
   have e:cs=vs:=by
    refine List.ext_getElem (by rw[h2,hl]) λj hj GL=>?_;have g1:=h1 j _ (z6 hj);have g2:=hc j _ (z6 GL);exact zI (g1.symm.trans g2)
   rw[<-e];exact h3
 | q::l,b,off,i+1,p,vs,h,hp,hl,hc=>by
   rw[aau] at h;refine aau.at (i:=i) h.2 hp hl ?_;rwa [show off+12+i*12=off+(i+1)*12 by omega]
theorem aau.of:∀{l:List aJ} {b off:Nat},(∀i p,l[i]?=some p->∃cs,cu w b (off+i*12) cs/\cs.length=12/\aem w p cs)->aau w l b off
 | [],_,_,_=>by rw[aau];trivial
 | p::l,b,off,h=>by
   rw[aau];refine⟨by have:=h 0 p rfl;rwa [Nat.zero_mul,Qf] at this,aau.of λi q hq=>?_⟩;have:=h (i+1) q hq;rwa [show off+(i+1)*12=off+12+i*12 by omega] at this
theorem aem.keepW(h:aem w p cs)(hb:Bw w w'):aem w' p cs:=aem.bu hb p cs h
def ajk(w:World)(l:List aJ)(A:Option Addr):Prop:=∀b off,A=some ⟨b,off,none⟩->aau w l b off
theorem ajk.keepW(h:ajk w l A)(hb:Bw w w'):ajk w' l A:=λb off e=>aau.bu hb l b off (h b off e)
theorem aem.args(h:aem w p [v0,v1,v2,v3,v4,v5,v6,v7,v8,v9,v10,(A,n,c)]):n<=c/\ajk w p.args A:=by
 obtain⟨k,mn,mx,el,cl,pr,args⟩:=p;rw[aem] at h;obtain⟨A',n',c',h1,h2,h3⟩:=h;have h4:=z19 (zI h1);obtain⟨rfl,rfl,rfl⟩:=h4;exact⟨h2,h3⟩
theorem ajk.tail(h:ajk w (p::l) A)(hA:∃b off,A=some ⟨b,off,none⟩)(hc:1<c\/l=[]):ajk w l (if c=1 then A else A.map (·.add (1*12))):=by
 rcases hc with hc | rfl
 ·rw[j5 zO];obtain⟨bb,oo,rfl⟩:=hA;intro b off e;have e2:Addr.add (bb,oo) (1*12)=(b,off):=zI e;unfold Addr.add at e2
  injection e2 with g1 g2
  subst g1 g2;have:=h bb oo rfl;rw[aau] at this;rw[Nat.one_mul];exact this.2
 intro b off _;rw[aau];trivial
theorem bM.aQm(h:bM w F 12 (l.map aZ) A n)(hk:ajk w l A)(hi:i<n)(c:Nat):
 ∃b off p v0 v1 v2 v3 v4 v5 v6 v7 v8 v9 v10 v11,Hid (l[i]?=some p)/\(au w F (aZ p) [v0,v1,v2,v3,v4,v5,v6,v7,v8,v9,v10,v11]/\aem w p [v0,v1,v2,v3,v4,v5,v6,v7,v8,v9,v10,v11])/\
  w.cell? ⟨b,off+i*12,none⟩=some v0/\w.cell? ⟨b,off+i*12+1,none⟩=some v1/\w.cell? ⟨b,off+i*12+2,none⟩=some v2/\w.cell? ⟨b,off+i*12+3,none⟩=some v3/\
  w.cell? ⟨b,off+i*12+4,none⟩=some v4/\w.cell? ⟨b,off+i*12+5,none⟩=some v5/\w.cell? ⟨b,off+i*12+6,none⟩=v6/\w.cell? ⟨b,off+i*12+7,none⟩=v7/\
  w.cell? ⟨b,off+i*12+8,none⟩=v8/\w.cell? (b,off+i*12+9)=v9/\w.cell? (b,off+i*12+10)=v10/\w.cell? (b,off+i*12+11)=v11/\
  ∀W,(Instr.indexAt 27 (A,n,c) i).run prog W= .ok (b,off+i*12) W:=by
 obtain⟨b,off,e,cs,hA,he,fJ,hr⟩:=h.elem hi;rw[z17] at he
 cases hp:l[i]? with
 | none=>rw[hp] at he;cases he
 | some p=>
   rw[hp] at he;obtain rfl:aZ p=e:=(by simpa using he);obtain⟨k,mn,mx,el,ck,ns,nl,s,A1,n1,c1,A2,n2,c2,pr,A',n',c',rfl,-⟩:=aW hr;have hc:=aau.at (hk b off hA) hp rfl fJ;obtain⟨p0,p1,p2,p3,p4,p5,p6,p7,p8,p9,p10,p11⟩:=fJ.twelve;exact⟨b,off,p,_,_,_,_,_,_,_,_,_,_,_,_,zH rfl,⟨hr,hc⟩,p0,p1,p2,p3,p4,p5,p6,p7,p8,p9,p10,p11,dN (P:=prog) 27 29 12 underlying27 (λw=>by kernel_rfl) hA n c i hi⟩
def kE(p:α->Bool):List α->Nat->Int
 | [],_=>-1
 | x::l,i=>if p x then i else kE p l (i+1)
theorem tY(p:α->Bool)(l:List α):∀i,decide (0<=kE p l i)=l.any p:=by
 induction l with
 | nil=>intro i;simp[kE]
 | cons c l ih=>
   intro i;rw[kE,List.any_cons];cases p c
   ·simpa using ih (i+1)
   simp
theorem yL{p:α->Bool}{l:List α}{x:α}(h:l[i]?=x):kE p (l.drop i) i=if p x then (i:Int) else kE p (l.drop (i+1)) (i+1):=by
 obtain⟨hi,rfl⟩:=z4.1 h;rw[nZ hi,kE]
def oZ(x:Nm):Bool:=jF (nmC x) !=0
def badL(l:List Nm):Bool:=decide (100<l.length)||l.any oZ
theorem amr{l:List Nm}(h:bM w F 2 (l.map nmD) A n):aY w F 2 dK l A n:=by
 refine⟨by rw[h.1,z8],λhp=>?_⟩;obtain⟨b,off,hA,hb,hr⟩:=h.2 (by rw[h.1,z8];exact hp);refine⟨b,off,hA,hb,λi x hx=>?_⟩;obtain⟨cs,h1,h2⟩:=hr.get i (nmD x) (by rw[z17,hx];rfl);unfold nmD at h2;simp only[au.gu,au.oL,gI.rq] at h2;obtain⟨_,_,rfl,rfl,_,_,rfl,rfl,rfl⟩:=h2;exact h1
theorem bM.Uk{l:List (List Nm)}(h:bM w F 1 (l.map nU) A n)(hi:i<n)(c:Nat):
 ∃b off x B m d,Hid (l[i]?=some x)/\m<6000000000000/\aY w F 2 dK x B m/\w.cell? ⟨b,off+i,none⟩=some (.slice B m d)/\
  ∀W,(Instr.indexAt 30 (A,n,c) i).run prog W= .ok (.pointer (some ⟨b,off+i,none⟩)) W:=by
 obtain⟨b,off,e,cs,hA,he,fJ,hr⟩:=h.elem hi;rw[z17] at he
 cases hp:l[i]? with
 | none=>rw[hp] at he;cases he
 | some p=>
   rw[hp] at he;obtain rfl:nU p=e:=(by simpa using he);unfold nU at hr;simp only[au.gu,au.oL] at hr;obtain⟨v,_,rfl,hv,rfl⟩:=hr;obtain⟨B,m,d,rfl,hm,aI⟩:=gI.row hv;have h1:=dN (P:=prog) 30 37 1 underlying30 (λw=>by kernel_rfl) hA n c i hi;have h2:w.cell? (b,off+i*1+0)=(B,m,d):=fJ 0 _ rfl;simp only[Nat.mul_one,Qf] at h1 h2;exact⟨b,off,p,B,m,d,zH rfl,hm,amr aI,h2,h1⟩
theorem ahd(a b:ByteArray)(w:World):Rt 100 #[.agg #[a,b]] w (oZ (a,b)):=by
 obtain⟨w1,bI,S1,lY,ai⟩:=af w (Zc #[a,b] 23);have q0:=dw S1;obtain⟨ec,yJ⟩:=zF (jF (nmC (a,b)));have HB:Hid (oZ (a,b)=(ec !=0)):=zH (by unfold oZ;rw[yJ]);have HC:Hid (Rt 101 #[.agg #[(1:Int),a,b,.string ⟨#[]⟩,(),()]] w1 ec):=zH (Fj (nmC (a,b)) _ w1 (λ_=>True) (afC (a,b) w1 _ none none 0 0) (by rw[Wx];exact yJ));clear S1 yJ;go_enter func100,ntmps100;go_wp2_with fail;refine HC.mono ?_;rintro e w2 ⟨rfl,ag⟩;go_wp2_with fail;go_ret;exact⟨aK HB.symm,ai.seq ag⟩
theorem ar1{p:Prop} (h:p:=by
 go_wp2_with fail;refine HC.mono ?_;rintro e w3 ⟨rfl,az⟩;go_wp2_with fail;go_roundw
 case rel=>exact⟨i+1,zO,by go_num,zH (by rw[HL.out,HS.out];rfl),aH.trans (az.mono aH.size)⟩
 simp[intOf];omega):p:=h
theorem ar2{p:Prop} (h:p:=by
 go_wp2_with fail;refine HC.mono ?_;rintro e w3 ⟨rfl,az⟩;go_wp2_with fail;go_ret
 exact⟨iU (by rw[HL.out,HS.out];rfl),aH.trans (az.mono aH.size)⟩):p:=h
theorem ar5{p:Prop} (h:p:=by
 have hd:=zT2 (i<n);have HE:Hid (l.drop i=[]):=zH (z14 (by have:=HN.out;omega));go_wp2_with fail;go_ret
 exact⟨iU (by rw[HL.out,HE.out,kE]),aH⟩):p:=h
theorem ams(l:List Nm)(A:Option Addr)(n c:Nat)(w:World)(F:Nat->Prop)(bQ:aY w F 2 dK l A n)(hn:n<6000000000000):
 Rt 159 #[(A,n,c),.func (.func 100) #[] #[]] w (kE oZ l 0):=by
 have aI:=bQ.here Iu;have HN:Hid (n=l.length):=zH (aI.1);clear bQ;go_enter func159,ntmps159;go_wp2_with fail
 go_loopw [8] (λsi wr=>∃i:Nat,i<=n/\si= i/\Hid (kE oZ l 0=kE oZ (l.drop i) i)/\Bw w wr)
  (λsi _=>n - (intOf si).toNat)
 case atStart=>exact⟨0,zO,rfl,zH rfl,j9 _ _⟩
 obtain⟨i,hi,rfl,HL,aH⟩:=hrel;by_cases aN:i<n
 ·obtain⟨b,off,xa,xb,HX,p0,p1,dO⟩:=(aI.below aH).name aN c;have hd:=zT1 (i<n);obtain⟨v,hv⟩:=zF (oZ (xa,xb));have HS:=zH (yL (p:=oZ) HX);rw[hv] at HS;have HC:Hid (Rt 100 #[.agg #[xa,xb]] wr v):=zH (by rw[<-hv];exact ahd xa xb wr);clear hv;cases v
  ·exact ar1
  exact ar2
 exact ar5
theorem aa2(l:List Nm)(A:Option Addr)(n c:Nat)(w:World)(F:Nat->Prop)(bQ:aY w F 2 dK l A n)(hn:n<6000000000000):
 Rt 99 #[(A,n,c),.func (.func 100) #[] #[]] w (l.any oZ):=by
 have HC:=zH (ams l A n c w F bQ hn);have HR:=zH (tY oZ l 0);clear bQ;go_enter func99,ntmps99;go_wp2_with fail;refine HC.mono ?_;rintro e w2 ⟨rfl,ag⟩;go_wp2_with fail;go_ret;exact⟨aK HR,ag⟩
theorem KZ(l:List Nm)(A:Option Addr)(n c:Nat)(w:World)(F:Nat->Prop)(bQ:aY w F 2 dK l A n)(hn:n<6000000000000):
 Rt 48 #[(A,n,c)] w (!l.any oZ:Bool):=by
 have HC:=zH (aa2 l A n c w F bQ hn);clear bQ;go_enter func48,ntmps48;go_wp2_with fail;refine HC.mono ?_;rintro e w2 ⟨rfl,ag⟩;go_wp2_with fail;go_ret;exact⟨rfl,ag⟩
theorem ahe(l:List Nm)(A:Option Addr)(n c:Nat)(w:World)(F:Nat->Prop)(bQ:aY w F 2 dK l A n)(hn:n<6000000000000):
 Rt 47 #[(A,n,c)] w (badL l):=by
 obtain⟨v,hv⟩:=zF (l.any oZ);have HC:Hid (Rt 48 #[(A,n,c)] w (!v:Bool)):=zH (by rw[<-hv];exact KZ l A n c w F bQ hn);have hl:=bQ.len;by_cases hb:100<n
 ·have hd:=zT1 ((100:Int)<(n:Int));have HV:Hid (badL l=true):=zH (by unfold badL;rw[<-hl];simp[hb]);clear bQ hv hl hb;go_enter func47,ntmps47;go_wp2_with fail;go_ret;exact⟨aK HV.symm,j9 _ _⟩
 have hd:=zT2 ((100:Int)<(n:Int));have HV:Hid (badL l=v):=zH (by unfold badL;rw[<-hl,hv];simp[hb]);clear bQ hv hl hb;go_enter func47,ntmps47;go_wp2_with fail;refine HC.mono ?_;rintro e w2 ⟨rfl,ag⟩;go_wp2_with fail;go_ret;exact⟨aK (by rw[HV.out]),ag⟩
theorem amu(l:List (List Nm))(A:Option Addr)(n c:Nat)(w:World)(F:Nat->Prop)(bQ:bM w F 1 (l.map nU) A n)(hn:n<6000000000000):
 Rt 98 #[(A,n,c),.func (.func 47) #[] #[]] w (kE badL l 0):=by
 have aI:=bM.here bQ (Nz l);have HN:Hid (n=l.length):=zH (by have:=aI.1;rwa [z8] at this);clear bQ;go_enter func98,ntmps98;go_wp2_with fail
 go_loopw [8] (λsi wr=>∃i:Nat,i<=n/\si= i/\Hid (kE badL l 0=kE badL (l.drop i) i)/\Bw w wr)
  (λsi _=>n - (intOf si).toNat)
 case atStart=>exact⟨0,zO,rfl,zH rfl,j9 _ _⟩
 obtain⟨i,hi,rfl,HL,aH⟩:=hrel;by_cases aN:i<n
 ·obtain⟨b,off,x,B,m,d,HX,hm,hx,p0,dO⟩:=(aI.below aH).Uk aN c;have hd:=zT1 (i<n);obtain⟨v,hv⟩:=zF (badL x);have HS:=zH (yL (p:=badL) HX);rw[hv] at HS;have HC:Hid (Rt 47 #[(B,m,d)] wr v):=zH (by rw[<-hv];exact ahe x B m d wr _ hx hm);clear hv hx;cases v
  ·exact ar1
  exact ar2
 exact ar5
theorem aa3(l:List (List Nm))(A:Option Addr)(n c:Nat)(w:World)(F:Nat->Prop)(bQ:bM w F 1 (l.map nU) A n)(hn:n<6000000000000):
 Rt 46 #[(A,n,c),.func (.func 47) #[] #[]] w (l.any badL):=by
 have HC:=zH (amu l A n c w F bQ hn);have HR:=zH (tY badL l 0);clear bQ;go_enter func46,ntmps46;go_wp2_with fail;refine HC.mono ?_;rintro e w2 ⟨rfl,ag⟩;go_wp2_with fail;go_ret;exact⟨aK HR,ag⟩
theorem amv(l:List Nm)(A:Option Addr)(n c:Nat)(w:World)(F:Nat->Prop)(bQ:aY w F 2 dK l A n)(hn:n<6000000000000):
 Rt 20 #[(A,n,c)] w (!l.any oZ:Bool):=by
 have aI:=bQ.here Iu;have HN:Hid (n=l.length):=zH aI.1;clear bQ;go_enter func20,ntmps20;go_wp2_with fail
 go_loopw [3] (λsi wr=>∃i:Nat,i<=n/\si= i/\Hid (l.any oZ=(l.drop i).any oZ)/\Bw w wr)
  (λsi _=>n - (intOf si).toNat)
 case atStart=>exact⟨0,zO,rfl,zH rfl,j9 _ _⟩
 obtain⟨i,hi,rfl,HL,aH⟩:=hrel;by_cases aN:i<n
 ·obtain⟨b,off,xa,xb,HX,p0,p1,dO⟩:=(aI.below aH).name aN c;have hd:=zT1 (i<n);obtain⟨ec,yJ⟩:=zF (jF (nmC (xa,xb)));have HB:Hid (oZ (xa,xb)=(ec !=0)):=zH (by unfold oZ;rw[yJ]);have HS:=zH (amq (f:=oZ) HX);have HC:Hid (Rt 71 #[.agg #[(1:Int),xa,xb,.string ⟨#[]⟩,(),()]] wr ec):=zH (IC (nmC (xa,xb)) _ wr (λ_=>True) (afC (xa,xb) wr _ none none 0 0) yJ);clear yJ;by_cases he:ec=0
  ·have gJ:(ec !=0)=false:=(by simp[he]);have HF:Hid (oZ (xa,xb)=false):=zH (by rw[HB.out,gJ]);clear he;go_wp2_with fail;refine HC.mono ?_;rintro e w3 ⟨rfl,az⟩;go_wp2_with fail;go_roundw
   case rel=>exact⟨i+1,zO,by go_num,zH (by rw[HL.out,HS.out,HF.out,Bool.false_or]),aH.trans (az.mono aH.size)⟩
   simp[intOf];omega
  have gJ:(ec !=0)=true:=(by simpa using he);have HF:Hid (oZ (xa,xb)=true):=zH (by rw[HB.out,gJ]);clear he;go_wp2_with fail;refine HC.mono ?_;rintro e w3 ⟨rfl,az⟩;go_wp2_with fail;go_ret;exact⟨aK (by rw[HL.out,HS.out,HF.out];rfl),aH.trans (az.mono aH.size)⟩
 have hd:=zT2 (i<n);have HE:Hid (l.drop i=[]):=zH (z14 (by have:=HN.out;omega));go_wp2_with fail;go_ret;exact⟨aK (by rw[HL.out,HE.out];rfl),aH⟩
mutual
theorem aJ.ind(h:∀k mn mx el c pr args,(∀p∈args,P p)->P (.mk k mn mx el c pr args)):∀p,P p
 | .mk k mn mx el c pr args=>h k mn mx el c pr args (aJ.Em h args)
theorem aJ.Em(h:∀k mn mx el c pr args,(∀p∈args,P p)->P (.mk k mn mx el c pr args)):∀l:List aJ,∀p∈l,P p
 | []=>λ_ hc=>by cases hc
 | c::l=>λx hx=>by
   have h1:=aJ.ind h c;have h2:=aJ.Em h l
   rcases TT.1 hx with e | hx
   ·exact e ▸ h1
   exact h2 x hx
end
theorem WB(r d m:Nat):jf r d m []=(d,m):=by cases r<;>rw[jf]
theorem aeZ(hp:l[i]?=p)(hm:¬40<m)(h:jf (r+1) d m (l.drop i)=R):jf (r+1) (max d (kJ r p).1) (m+(kJ r p).2) (l.drop (i+1))=R:=by
 obtain⟨h1,rfl⟩:=z4.1 hp;rw[nZ h1,jf,j5 hm] at h;exact h
theorem Ul(hm:40<m\/r=0\/l.length<=i)(h:jf r d m (l.drop i)=R):R=(d,m):=by
 rcases i8 i l.length with hi | hi
 ·rw[nZ hi] at h
  cases r with
  | zero=>rw[jf] at h;exact h.symm
  | succ r=>
    rw[jf,j6 zO] at h;exact h.symm
 rw[List.drop_of_length_le hi,WB] at h;exact h.symm
mutual
theorem abZ:∀(p:aJ) (r:Nat),(kJ r p).1<=r+1/\(kJ r p).2<=41+41*r
 | .mk _ _ _ _ _ _ args,r=>by
   rw[kJ];have:=QE args r 0 1;simp only;omega
theorem QE:∀(l:List aJ) (r d m:Nat),(jf r d m l).1<=max d r/\(jf r d m l).2<=max m (41+41*r)
 | [],r,d,m=>by rw[WB];simp only;omega
 | p::l,0,d,m=>by rw[jf];simp only;omega
 | p::l,r+1,d,m=>by
   rw[jf];have h1:=abZ p r;have h2:=QE l (r+1) (max d (kJ r p).1) (m+(kJ r p).2)
   split
   ·simp only;omega
   omega
end
theorem amw:∀(r:Nat) (p:aJ) (cs:List Value) (w:World) (F:Nat->Prop),au w F (aZ p) cs->r<1000->
 Rt 49 #[.agg cs.toArray,r] w (.tuple #[(kJ r p).1,(kJ r p).2]):=by
 intro r
 induction r with
 | zero=>
   intro p cs w F h hr0;obtain⟨k,mn,mx,el,ck,ns,nl,sp,A1,n1,c1,A2,n2,c2,pr,A,n,c,rfl,-,-,-,-,-,-,hn,aI⟩:=aW (au.here _ _ (jK p) h)
   have hD:kJ 0 p=(1,1):=by
    cases p with
    | mk k mn mx el cl pr args=>
      rw[kJ]
      cases args with
      | nil=>rw[jf]
      | cons a l=>rw[jf]
   rw[hD];obtain⟨w1,bI,S1,lY,ai⟩:=zP1 w k mn mx el ck ns nl sp A1 n1 c1 A2 n2 c2 pr A n c;obtain⟨q0,q1,q2,q3,q4,q5,q6,q7,q8,q9,aF,aG⟩:=aj S1;have hz:(((0:Nat):Int)==0)=true:=rfl;clear S1 h;go_enter func49,ntmps49;go_wp2_with fail
   go_loopw [4,5,13] (λs4 s5 QF wr=>s4= (0:Int)/\s5= (1:Int)/\QF= (0:Int)/\Bw w wr) (λ_ _ _ _=>0)
   case atStart=>exact⟨rfl,rfl,rfl,ai⟩
   obtain⟨rfl,rfl,rfl,aH⟩:=hrel;by_cases hn0:0<n
   ·obtain⟨b,off,px,v0,v1,v2,v3,v4,v5,v6,v7,v8,v9,v10,v11,HX,eG,z0,z1,z2,z3,z4,z5,z6,z7,z8,z9,nZ,og,dO⟩:=(aI.below aH).DW (i:=0) hn0 c;have amx:∀W,(Instr.indexAt 27 (A,n,c) (0:Int)).run prog W= .ok (b,off) W:=(by simpa using dO);simp only[Nat.zero_mul,Qf] at z0 z1 z2 z3 z4 z5 z6 z7 z8 z9 nZ og;have jV:=zT1 ((0:Int)<(n:Int));obtain⟨kx,gU,gz,gZ,ig,ik,iq,iw,iy,iC,iD,iE,iF,iG,iH,Ax,nx,cx,fJ,-⟩:=aW eG;simp only[i7,and_true] at fJ;obtain⟨rfl,rfl,rfl,rfl,rfl,rfl,rfl,rfl,rfl,rfl,rfl,rfl⟩:=fJ;obtain⟨wa,BK,SA,Vg,bJ⟩:=zP1 wr kx gU gz gZ ig ik iq iw iy iC iD iE iF iG iH Ax nx cx;obtain⟨x0,x1,x2,x3,x4,x5,x6,x7,x8,x9,yM,yN⟩:=aj SA;have Ew:=aH.trans (bJ.mono aH.size);clear dO SA eG;go_wp2_with fail;(try simp only[Exit.inBlock,Exit.then]);refine Qg (v:=.tuple #[(1:Int),(1:Int)]) (by simp[results,results49,go_sem]) rfl ?_;exact⟨rfl,Ew⟩
   have jV:=zT2 ((0:Int)<(n:Int));go_wp2_with fail;(try simp only[Exit.inBlock,Exit.then]);refine Qg (v:=.tuple #[(1:Int),(1:Int)]) (by simp[results,results49,go_sem]) rfl ?_;exact⟨rfl,aH⟩
 | succ r ih=>
   intro p cs w F h hr0;have rZ:=zH ih;clear ih;have bH:=au.here _ _ (jK p) h;obtain⟨k,mn,mx,el,ck,ns,nl,sp,A1,n1,c1,A2,n2,c2,pr,A,n,c,rfl,-,-,-,-,-,-,hn,aI⟩:=aW bH;obtain⟨args,wF⟩:=zF p.args;obtain⟨R,hR⟩:=zF (jf (r+1) 0 1 args)
   have hD:kJ (r+1) p=(R.1+1,R.2):=by
    cases p with
    | mk k mn mx el cl pr args'=>
      obtain rfl:args'=args:=wF;rw[kJ,hR]
   have hRb:=QE args (r+1) 0 1;rw[hR] at hRb;rw[hD];rw[wF] at aI;have HR:=zH hR;have HN:Hid (n=args.length):=zH (by have:=aI.1;rwa [z8] at this);obtain⟨w1,bI,S1,lY,ai⟩:=zP1 w k mn mx el ck ns nl sp A1 n1 c1 A2 n2 c2 pr A n c;obtain⟨q0,q1,q2,q3,q4,q5,q6,q7,q8,q9,aF,aG⟩:=aj S1;have hz:(((r:Int)+1)==0)=false:=zS1;have hrr:((r:Int)+1) - 1=(r:Int):=zO;rw[show ((r+1:Nat):Int)=(r:Int)+1 from rfl];clear S1 h bH hR wF hD;go_enter func49,ntmps49;go_wp2_with fail
   go_loopw [4,5,13] (λs4 s5 QF wr=>∃i d m:Nat,i<=n/\QF= i/\s4= d/\s5= m/\d<=r+1/\m<=41+41*(r+1)/\Hid (jf (r+1) d m (args.drop i)=R)/\Bw w wr)
    (λ_ _ QF _=>n - (intOf QF).toNat)
   case atStart=>exact⟨0,0,1,zO,rfl,rfl,rfl,zO,zO,HR,ai⟩
   obtain⟨i,d,m,hi,rfl,rfl,rfl,hdb,hmb,HL,aH⟩:=hrel;by_cases aN:i<n
   ·obtain⟨b,off,px,v0,v1,v2,v3,v4,v5,v6,v7,v8,v9,v10,v11,HX,eG,z0,z1,z2,z3,z4,z5,z6,z7,z8,z9,nZ,og,dO⟩:=(aI.below aH).DW aN c;have jV:=zT1 (i<n);obtain⟨kx,gU,gz,gZ,ig,ik,iq,iw,iy,iC,iD,iE,iF,iG,iH,Ax,nx,cx,fJ,-⟩:=aW eG;simp only[i7,and_true] at fJ;obtain⟨rfl,rfl,rfl,rfl,rfl,rfl,rfl,rfl,rfl,rfl,rfl,rfl⟩:=fJ;obtain⟨wa,BK,SA,Vg,bJ⟩:=zP1 wr kx gU gz gZ ig ik iq iw iy iC iD iE iF iG iH Ax nx cx;obtain⟨x0,x1,x2,x3,x4,x5,x6,x7,x8,x9,yM,yN⟩:=aj SA;have Ew:=aH.trans (bJ.mono aH.size);by_cases hm:40<m
    ·have gJ:=zT1 ((40:Int)<(m:Int));have HE:=zH (Ul (.inl hm) HL);clear SA eG;go_wp2_with fail;(try simp only[Exit.inBlock,Exit.then]);refine Qg (v:=.tuple #[((d:Int)+1:Int),m]) (by simp[results,results49,go_sem]) rfl ?_;exact⟨by rw[HE.out];rfl,Ew⟩
    have gJ:=zT2 ((40:Int)<(m:Int));have HS:=zH (aeZ HX hm HL);have hle:=abZ px r;obtain⟨⟨dq,mq⟩,yt⟩:∃x,kJ r px=x:=⟨_,rfl⟩
    have HC:Hid (Rt 49 #[.agg (o5 kx gU gz gZ ig ik iq iw iy iC iD iE iF iG iH Ax nx cx),r] wa (.tuple #[dq,mq])):=zH (by
     have h:=rZ px _ wa _ (au.below eG (bJ.mono aH.size)) zO
     simpa only[yt] using h)
    rw[yt] at HS hle;simp only at hle;clear SA eG yt;go_wp2_with fail;refine HC.mono ?_;rintro e w2 ⟨rfl,ag⟩;go_wp2_with fail;go_roundw
    case rel=>exact⟨i+1,max d dq,m+mq,zO,by go_num,by go_num,by go_num,zO,zO,HS,Ew.trans (ag.mono Ew.size)⟩
    simp[intOf];omega
   have jV:=zT2 (i<n);have HE:=zH (Ul (.inr (.inr (by have:=HN.out;omega))) HL);go_wp2_with fail;(try simp only[Exit.inBlock,Exit.then]);refine Qg (v:=.tuple #[((d:Int)+1:Int),m]) (by simp[results,results49,go_sem]) rfl ?_;exact⟨by rw[HE.out];rfl,aH⟩
