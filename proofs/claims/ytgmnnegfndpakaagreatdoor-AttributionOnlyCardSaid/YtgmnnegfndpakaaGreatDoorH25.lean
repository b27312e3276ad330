import Derived.Test.YtgmnnegfndpakaaGreatDoorH24
import Derived.Test.YtgmnnegfndpakaaGreatDoorH23
set_option maxHeartbeats 20000000
set_option maxRecDepth 100000
namespace Go.Proofs.YtgmnnegfndpakaaGreatDoor
open Go.RowKit Go.Proofs.Tryz
variable{l live:List Nat}{i g:Nat}{p:Prop}{w:World}{F:Nat->Prop}{q:aU}
theorem aas(m:eQ)(B bm:Nat)(p:aJ)(cs:List Value)(w:World)(hM:mO w B bm m)(hB:B<=w)(hr:au w (· <B) (aZ p) cs)(hl:xE m.elems p)(hT:Tab w):
 Rt 83 #[(bm,0),.agg cs.toArray] w (Hr m.elems p):=by
 obtain⟨eA,en,ec,pA,pn,pU,fA,fn,fc,mb,aA,an,ac,uD,GH,-,hE,-,-,-,-,-,jR,-⟩:=hM;obtain⟨k,mn,mx,el,ck,ns,nl,sp,A1,n1,c1,A2,n2,c2,pr,A,n,c,rfl,hk,-,-,lT,-,eH,-⟩:=aW hr;obtain⟨w1,bI,S1,nC,ai⟩:=zP1 w k mn mx el ck ns nl sp A1 n1 c1 A2 n2 c2 pr A n c;have e1:w1=w.heap.size+1:=(by rw[<-bI];simp);obtain⟨q0,q1,q2,q3,q4,q5,q6,q7,q8,q9,aF,aG⟩:=aj S1;have Ru:w1.heap[bm]?=Zc #[(eA,en,ec),(pA,pn,pU),(fA,fn,fc),.map (some mb),m.empty,(aA,an,ac)] 169:=(ai.block bm zO).trans uD;obtain⟨m0,m1,m2,m3,m4,m5⟩:=uK Ru;obtain⟨v,hv⟩:=zF (Hr m.elems p);rw[hv];have HV:=zH hv;clear S1 hv uD Ru;by_cases eu:k=1
 ·subst eu;obtain⟨h0,h1⟩:=hl hk;rw[lT] at h0 h1;obtain⟨i,rfl⟩:∃i:Nat,el=i:=⟨el.toNat,zO⟩;have hlen:=hE.1;rw[List.length_map] at hlen;have hi:i<en:=zO;clear hlen;obtain⟨ob,off,x,Ax,nx,cx,HX,hxn,aI,GI,dO⟩:=(hE.below (ai.mono hB)).Uk hi ec;have xw:=aI.1
  have DV:decide (0<nx)=v:=by
   have h:=HV.out;unfold Hr elemAt at h;rw[hk,j6 rfl,lT,Int.toNat_natCast,HX.out] at h;rw[<-h,xw];rfl
  have hk0:((1:Int)==1)=true:=rfl;clear aI hl hE eH hr h0 h1 hT xw;go_enter func83,ntmps83;go_wp2_with fail;have sm0:=Since.cell m0;have sq3:=Since.cell q3;have sc1:=Since.cell GI;refine yh zK zK ?_
  repeat (quiet_step (fail))
  refine wpQuiet_nil ?_;intro wq hq;have Xo:=Ap hq;clear hq;go_wp2_with fail;go_ret;exact⟨by rw[<-DV];simp,ai.seq Xo⟩
 have hk0:(k==1)=false:=(by simpa using eu);obtain⟨x1,Cb⟩:=zF (IK (jF p.cls) (!(TF (ahc 0 p.cls p.cls) (jP [p.cls,p.cls] ([],[])))));obtain⟨x2,FI⟩:=zF (jF p.cls)
 have DV:(!x1&&decide (x2=0))=v:=by
  have h:=HV.out;unfold Hr at h;rw[hk,j5 eu] at h;rw[<-Cb,<-FI];exact h
 have QA:=zH DV
 have HH:Hid (Rt 146 #[.agg #[ck,ns,nl,sp,(A1,n1,c1),(A2,n2,c2)]] w1 (.tuple #[x1,x2])):=zH (by
  have h:=akH p.cls _ w1 _ (eH.keep (F':=λ_=>True) λq hq _=>⟨trivial,ai.block q zO⟩) (hT.below ai)
  rw[Cb,FI] at h;exact h)
 clear DV Cb FI hl hE eH hr hk hT;go_enter func83,ntmps83;go_wp2_with fail;refine HH.mono ?_;rintro e w2 ⟨rfl,ag⟩;cases x1
 all_goals
  by_cases hx:x2=0
  all_goals
   have hxx:(x2==0)=decide (x2=0):=rfl;have HX:=zH hx;go_wp2_with fail;go_ret;exact⟨by rw[<-QA.out];simp[HX.out],ai.seq ag⟩
theorem akI{l:List aJ}{p:aJ}(h:l[i]?=p)(s:Nat):II (l.drop i) s=(decide (p.mn<=((s % 4:Nat):Int))&&decide (((s % 4:Nat):Int)<=p.mx)&&II (l.drop (i+1)) (s / 4)):=by
 obtain⟨hi,rfl⟩:=List.getElem?_eq_some_iff.1 h;rw[List.drop_eq_getElem_cons hi,II]
theorem aat(m:eQ)(B bm s:Nat)(w:World)(hM:mO w B bm m)(hB:B<=w)(hs:s<1000000):
 Rt 126 #[(bm,0),s] w (wH m s):=by
 obtain⟨eA,en,ec,pA,pn,pU,fA,fn,fc,mb,aA,an,ac,uD,GH,hmB,-,-,-,BB,tJ,EI,-,-,-,han⟩:=hM;obtain⟨m0,m1,m2,m3,m4,m5⟩:=uK uD;by_cases VK:m.all=[]
 ·have haA:aA=none:=EI.1 VK;subst haA;obtain⟨v,hv⟩:=zF (wH m s);rw[hv];have hn0:an=0:=(by have:=tJ.1;rw[VK] at this;exact this);subst hn0;obtain⟨me,hme⟩:=zF m.empty;obtain⟨L,hL⟩:=zF (xx m.last);rw[hL] at BB;obtain⟨r,hr⟩:=zF ((dP jL (s:Int) L).getD false)
  have DV:((decide (s=0)&&me)||r)=v:=by
   rw[<-hv,<-hr,<-hL,akc];unfold wH;rw[VK,<-hme];rfl
  have QA:=zH DV;rw[hme] at m4
  have pg:(Instr.lookup 122 (.map (some mb)) s false).run prog w= .ok r w:=by
   have h:=qX (P:=prog) (zv:=false) qJ underlying122 (λW=>by kernel_rfl) BB (s:Int) false;rw[<-hr];refine h.trans ?_;cases dP jL (s:Int) L<;>rfl
  have aIl:=amU 0 ac;have QG:((s:Int)==0)=decide (s=0):=(by rw[m9];simp);have Jc:Hid (s=0\/s≠0):=zH zO;clear hme BB hL hr DV tJ hv VK EI han;obtain⟨z0,xm⟩:=zF (decide (s=0));rw[xm] at QG;have HZ1:=zH xm;clear xm;cases z0
  all_goals cases me
  all_goals
   go_enter func126,ntmps126;go_wp2_with fail;go_ret;exact⟨by rw[<-QA.out,HZ1.out];simp,j9 _ _⟩
 have hlen:=tJ.1;rw[List.length_map] at hlen;have kD:0<an:=(by rw[hlen];exact List.length_pos_iff.2 VK);obtain⟨ab,ao,haA,-⟩:=tJ.2 kD;subst haA;have heq:=akg ab ao an ac
 have hR:wH m s=II m.all s:=by
  unfold wH;rw[j5 (by simpa using VK)]
 rw[hR];obtain⟨R,hRR⟩:=zF (II m.all s);rw[hRR];have pR:=zH hlen;have H0:Hid (II (m.all.drop 0) s=R):=zH (by rw[List.drop_zero];exact hRR);have HAL:=zH (tJ.keep (F':=(· <w)) (w':=w) λb hb=>⟨zO,rfl⟩);have HB0:=zH uD;clear tJ hlen hR hRR EI BB VK uD;go_enter func126,ntmps126;go_wp2_with fail
 go_loopw [1,34] (λs1 si wr=>∃(i q:Nat),i<=an/\si= i/\s1= q/\q<1000000/\Hid (II (m.all.drop i) q=R)/\Bw w wr)
  (λ_ si _=>an - (intOf si).toNat)
 case atStart=>exact⟨0,s,zO,rfl,rfl,hs,H0,j9 _ _⟩
 obtain⟨i,q,hi,rfl,rfl,hq,HQ,aH⟩:=hrel;clear m0 m1 m2 m3 m4 m5;obtain⟨m0,m1,m2,m3,m4,m5⟩:=uK (ae HB0 aH);by_cases aN:i<an
 ·have jV:=zT1 (i<an);obtain⟨b,off,px,v0,v1,v2,v3,v4,v5,v6,v7,v8,v9,v10,v11,HX,eG,z0,z1,z2,z3,z4,z5,z6,z7,z8,z9,nZ,og,dO⟩:=(HAL.below aH).DW aN ac;obtain⟨kx,gU,gz,gZ,ig,ik,iq,iw,iy,iC,iD,iE,iF,iG,iH,Ax,nx,cx,fJ,hkx,atQ,ahN,-⟩:=aW eG;simp only[i7,and_true] at fJ;obtain⟨rfl,rfl,rfl,rfl,rfl,rfl,rfl,rfl,rfl,rfl,rfl,rfl⟩:=fJ;have bZ:=HQ.out;rw[akI HX,atQ,ahN] at bZ;obtain⟨wa,BK,SA,Vg,bJ⟩:=zP1 wr kx gU gz gZ ig ik iq iw iy iC iD iE iF iG iH Ax nx cx;have x0:=aj SA;have Ew:=aH.seq bJ;clear SA eG hkx atQ ahN;have ank:(q:Int).tmod 4=((q % 4:Nat):Int):=(by rw[Int.tmod_eq_emod_of_nonneg zO];omega);have ahO:(q:Int).tdiv 4=((q / 4:Nat):Int):=(by rw[Int.tdiv_eq_ediv_of_nonneg zO];omega);obtain⟨g,hg⟩:=zF (q % 4);rw[hg] at ank bZ;have CY:g<4:=zO;have HG:=zH hg;clear hg;by_cases h1:(g:Int)<gU
  ·have hRf:R=false:=by
    rw[<-bZ];have:decide (gU<=(g:Int))=false:=zS1;rw[this];rfl
   have HRF:=zH hRf;clear bZ hRf;go_wp2_with fail;go_ret;exact⟨by rw[HRF.out];rfl,Ew⟩
  by_cases h2:gz<(g:Int)
  ·have hRf:R=false:=by
    rw[<-bZ];have:decide ((g:Int)<=gz)=false:=zS1;rw[this];simp
   have HRF:=zH hRf;clear bZ hRf;go_wp2_with fail;go_ret;exact⟨by rw[HRF.out];rfl,Ew⟩
  have hn:II (m.all.drop (i+1)) (q / 4)=R:=by
   rw[<-bZ];have a1:=zT1 (gU<=(g:Int));have a2:=zT1 ((g:Int)<=gz);rw[a1,a2];rfl
  have HN:=zH hn;clear bZ hn;go_wp2_with fail;go_roundw
  case rel=>exact⟨i+1,q / 4,zO,by go_num,by first | rfl | (simp[ahO];done) | go_num,zO,HN,Ew⟩
  simp[intOf];omega
 have jV:=zT2 (i<an)
 have hRt:R=true:=by
  have h:=HQ.out;rw[z14 (by have:=pR.out;omega),II] at h;exact h.symm
 have HRT:=zH hRt;clear hRt;go_wp2_with fail;go_ret;exact⟨by rw[HRT.out];rfl,aH⟩
theorem awi (h:p:=by
 go_wp2_with fail;refine HC.mono ?_;rintro e w3 ⟨rfl,az⟩;go_wp2_with fail;go_roundw
 case rel=>exact⟨i+1,zO,by go_num,zH (by rw[HL.out,HS.out];rfl),aH.trans (az.mono aH.size)⟩
 simp[intOf];omega):p:=h
theorem azg (h:p:=by
 go_wp2_with fail;refine HC.mono ?_;rintro e w3 ⟨rfl,az⟩;go_wp2_with fail;go_ret
 exact⟨iU (by rw[HL.out,HS.out];rfl),aH.trans (az.mono aH.size)⟩):p:=h
theorem awh (h:p:=by
 have hd:=zT2 (i<n);have HE:Hid (l.drop i=[]):=zH (z14 (by have:=HN.out;omega));go_wp2_with fail;go_ret
 exact⟨iU (by rw[HL.out,HE.out,kE]),aH⟩):p:=h
theorem akL(g:Nat)(q:Nat->Bool)(l:List Nat)(A:Option Addr)(n c:Nat)(w:World)(F:Nat->Prop)(bQ:aY w F 1 aV l A n)(hn:n<6000000000000)
 (eH:∀s∈l,∀(W:World),Bw w W->Rt 141 #[s,(g,0)] W (q s)):
 Rt 168 #[(A,n,c),.func (.func 141) #[] #[(g,0)]] w (kE (q) l 0):=by
 have aI:=bQ.here (λx=>by simp[aV]);have HN:Hid (n=l.length):=zH aI.1;have vJ:=zH eH;clear bQ eH;go_enter func168,ntmps168;go_wp2_with fail
 go_loopw [8] (λsi wr=>∃i:Nat,i<=n/\si= i/\Hid (kE (q) l 0=kE (q) (l.drop i) i)/\Bw w wr)
  (λsi _=>n - (intOf si).toNat)
 case atStart=>exact⟨0,zO,rfl,zH rfl,j9 _ _⟩
 obtain⟨i,hi,rfl,HL,aH⟩:=hrel;by_cases aN:i<n
 ·obtain⟨b,off,s,HX,jw,dO⟩:=(aI.below aH).nat aN c;have hd:=zT1 (i<n);obtain⟨v,hv⟩:=zF ((q) s);have HS:=zH (yL (p:=(q)) HX);rw[hv] at HS;have HC:Hid (Rt 141 #[s,(g,0)] wr v):=zH (by rw[<-hv];exact vJ s (SK HX) wr aH);clear hv;cases v
  ·exact awi
  exact azg
 exact awh
theorem YP(g:Nat)(q:Nat->Bool)(l:List Nat)(A:Option Addr)(n c:Nat)(w:World)(F:Nat->Prop)(bQ:aY w F 1 aV l A n)(hn:n<6000000000000)
 (eH:∀s∈l,∀(W:World),Bw w W->Rt 141 #[s,(g,0)] W (q s)):
 Rt 125 #[(A,n,c),.func (.func 141) #[] #[(g,0)]] w (l.any (q)):=by
 have HC:=zH (akL g q l A n c w F bQ hn eH);obtain⟨r,hr⟩:=zF (kE (q) l 0);have HD:Hid (decide (0<=r)=l.any (q)):=zH (by rw[<-hr];exact tY (q) l 0);rw[hr] at HC;clear bQ eH hr;go_enter func125,ntmps125;go_wp2_with fail;refine HC.mono ?_;rintro e w2 ⟨rfl,ag⟩;go_wp2_with fail;go_ret;exact⟨aK HD,ag⟩
theorem ahP(bm:Nat)(q:Nat->Bool)(l:List Nat)(A:Option Addr)(n c:Nat)(w:World)(F:Nat->Prop)(bQ:aY w F 1 aV l A n)(hn:n<6000000000000)
 (eH:∀s∈l,∀(W:World),Bw w W->Rt 126 #[(bm,0),s] W (q s)):
 Rt 168 #[(A,n,c),.func (.func 126) #[(bm,0)] #[]] w (kE (q) l 0):=by
 have aI:=bQ.here (λx=>by simp[aV]);have HN:Hid (n=l.length):=zH aI.1;have vJ:=zH eH;clear bQ eH;go_enter func168,ntmps168;go_wp2_with fail
 go_loopw [8] (λsi wr=>∃i:Nat,i<=n/\si= i/\Hid (kE (q) l 0=kE (q) (l.drop i) i)/\Bw w wr)
  (λsi _=>n - (intOf si).toNat)
 case atStart=>exact⟨0,zO,rfl,zH rfl,j9 _ _⟩
 obtain⟨i,hi,rfl,HL,aH⟩:=hrel;by_cases aN:i<n
 ·obtain⟨b,off,s,HX,jw,dO⟩:=(aI.below aH).nat aN c;have hd:=zT1 (i<n);obtain⟨v,hv⟩:=zF ((q) s);have HS:=zH (yL (p:=(q)) HX);rw[hv] at HS;have HC:Hid (Rt 126 #[(bm,0),s] wr v):=zH (by rw[<-hv];exact vJ s (SK HX) wr aH);clear hv;cases v
  ·exact awi
  exact azg
 exact awh
theorem XE(bm:Nat)(q:Nat->Bool)(l:List Nat)(A:Option Addr)(n c:Nat)(w:World)(F:Nat->Prop)(bQ:aY w F 1 aV l A n)(hn:n<6000000000000)
 (eH:∀s∈l,∀(W:World),Bw w W->Rt 126 #[(bm,0),s] W (q s)):
 Rt 125 #[(A,n,c),.func (.func 126) #[(bm,0)] #[]] w (l.any (q)):=by
 have HC:=zH (ahP bm q l A n c w F bQ hn eH);obtain⟨r,hr⟩:=zF (kE (q) l 0);have HD:Hid (decide (0<=r)=l.any (q)):=zH (by rw[<-hr];exact tY (q) l 0);rw[hr] at HC;clear bQ eH hr;go_enter func125,ntmps125;go_wp2_with fail;refine HC.mono ?_;rintro e w2 ⟨rfl,ag⟩;go_wp2_with fail;go_ret;exact⟨aK HD,ag⟩
def jY(w:World)(g:Nat)(live:List Nat):Prop:=∃L,gQ w g vM bV L/\∀s:Nat,(dP jL (s:Int) L).getD false=decide (s∈live)
theorem jY.keep{w':World}(h:jY w g live)(hb:w'.heap[g]?=w.heap[g]?):jY w' g live:=by
 obtain⟨L,h1,h2⟩:=h;exact⟨L,h1.keep hb,h2⟩
theorem jY.lt(h:jY w g live):g<w:=by
 obtain⟨L,h1,h2⟩:=h;exact h1.lt
theorem jY.look(h:jY w g live)(s:Nat):(Instr.lookup 122 (.map (some g)) s false).run prog w= .ok (decide (s∈live):Bool) w:=by
 obtain⟨L,h1,h2⟩:=h;have h:=qX (P:=prog) (zv:=false) qJ underlying122 (λW=>by kernel_rfl) h1 (s:Int) false;rw[<-h2 s];refine h.trans ?_;cases dP jL (s:Int) L<;>rfl
theorem afj(g mb:Nat)(live:List Nat)(s:Nat)(w:World)(hg:w.heap[g]?=Zc #[.map (some mb)] 122)(hm:jY w mb live):
 Rt 141 #[s,(g,0)] w (decide (s∈live):Bool):=by
 have c0:=aO hg;have pg:=hm.look s;obtain⟨v,hv⟩:=zF (decide (s∈live));rw[hv] at pg ⊢;clear hg hm hv;go_enter func141,ntmps141;go_wp2_with fail;go_ret;exact⟨rfl,j9 _ _⟩
theorem H8(mb:Nat)(live l:List Nat)(A:Option Addr)(n c:Nat)(w:World)(F:Nat->Prop)(aI:aY w F 1 aV l A n)(hn:n<6000000000000)(hm:jY w mb live):
 Rt 74 #[(A,n,c),.map (some mb)] w (EX l live):=by
 obtain⟨w1,bI,S1,nC,ai⟩:=af w (Zc #[.map (some mb)] 122);have HC:=zH (YP w (λs=>decide (s∈live)) l A n c w1 _ ((aI.here (λx=>by simp[aV])).below ai) hn (λs _ W hb=>afj w mb live s W (ae S1 hb) ((hm.keep (ai.block mb hm.lt)).keep (hb.block mb (by have:=hm.lt;have:=ai.size;omega)))));clear aI hm S1;go_enter func74,ntmps74;go_wp2_with fail;refine HC.mono ?_;rintro e w2 ⟨rfl,ag⟩;go_wp2_with fail;go_ret;exact⟨rfl,ai.seq ag⟩
theorem Ip(m:eQ)(B bm:Nat)(l:List Nat)(A:Option Addr)(n c:Nat)(w:World)(F:Nat->Prop)(hM:mO w B bm m)(hB:B<=w)(aI:aY w F 1 aV l A n)(hn:n<6000000000000)(hl:∀s∈l,s<1000000):
 Rt 59 #[(bm,0),(A,n,c)] w (qA m l):=by
 have HC:=zH (XE bm (wH m) l A n c w F aI hn (λs hs W hb=>aat m B bm s W (hM.below (hb.mono hB)) (by have:=hb.size;omega) (hl s hs)));clear aI hM hl;go_enter func59,ntmps59;go_wp2_with fail;refine HC.mono ?_;rintro e w2 ⟨rfl,ag⟩;go_wp2_with fail;go_ret;exact⟨rfl,ag⟩
abbrev SC:=Stp×List Value
def EK(x:SC):Array Value:=#[.agg (([x.1.dst,x.1.num]:List Value)++x.2).toArray]
def rdC(w:World)(b off:Nat):List Value:=(List.range 12).map λj=>(w.cell? (b,off+j)).getD undef
theorem akN{b off:Nat}{lc r:List Value}(h:cu w b off (lc++r))(hl:lc.length=12):rdC w b off=lc:=by
 apply List.ext_getElem?;intro j;unfold rdC;rw[z17];by_cases hj:j<12
 ·rw[List.getElem?_range hj];have hx:lc[j]?=lc[j]'zO:=z6 zO;have h2:=h j _ (by rw[z20 zO];exact hx);rw[hx];show some ((w.cell? (b,off+j)).getD undef)=_;rw[h2];rfl
 rw[JT zS1,JT zO];rfl
theorem au.split:∀{a b:List D} {cs:List Value},au w F (a++b) cs->∃ca cb,cs=ca++cb/\au w F a ca/\au w F b cb
 | [],b,cs,h=>⟨[],cs,rfl,by rw[au.oL],h⟩
 | d::a,b,cs,h=>by
   rw[m7,au.gu] at h;obtain⟨v,r,rfl,h1,h2⟩:=h;obtain⟨ca,cb,rfl,h3,h4⟩:=au.split h2;exact⟨v::ca,cb,rfl,by rw[au.gu];exact⟨v,ca,rfl,h1,h3⟩,h4⟩
theorem akO{cs:List Value}(h:au w F (Jb q) cs):∃lc fA fn fc,cs=lc++[.int .i64 q.num,.slice fA fn fc]/\lc.length=12/\au w F (aZ q.leaf) lc/\fn<6000000000000/\bM w F 1 (q.follow.map Dl) fA fn:=by
 unfold Jb at h;obtain⟨lc,cb,rfl,h1,h2⟩:=h.split;rw[au.gu] at h2;obtain⟨v,r,rfl,h3,h4⟩:=h2;rw[au.gu] at h4;obtain⟨v2,r2,rfl,h5,h6⟩:=h4;rw[au.oL] at h6;rw[gI.rq] at h3;subst h3;subst h6;obtain⟨fA,fn,fc,rfl,h7,h8⟩:=h5.row;exact⟨lc,fA,fn,fc,rfl,by rw[h1.len,abS],h1,h7,h8⟩
theorem adk{A:Option Addr}{n:Nat}(h:bM w F 1 (l.map Dl) A n):aY w F 1 aV l A n:=by
 refine⟨by rw[h.1,z8],λhp=>?_⟩;obtain⟨b,off,hA,hb,hr⟩:=h.2 (by rw[h.1,z8];exact hp);refine⟨b,off,hA,hb,λi x hx=>?_⟩;obtain⟨cs,h1,h2⟩:=hr.get i (Dl x) (by rw[z17,hx];rfl);unfold Dl at h2;simp only[au.gu,au.oL,gI.rq] at h2;obtain⟨_,_,rfl,rfl,rfl⟩:=h2;exact h1
def MC(cells:Nat->List Value):List aJ->Nat->Nat->Nat->Nat->List SC
 | [],_,_,_,_=>[]
 | p::l,s,i,u,q=>(if ((q % 4:Nat):Int)<p.mx then [(⟨s+u,i+1,p⟩,cells i)] else [])++MC cells l s (i+1) (4*u) (q / 4)
theorem agr(cells:Nat->List Value):∀(l:List aJ) (s i u q:Nat),(MC cells l s i u q).map (·.1)=qH l s i u q
 | [],_,_,_,_=>rfl
 | p::l,s,i,u,q=>by
   rw[MC,qH,Qb,agr cells l]
   split<;>rfl
theorem ags(cells:Nat->List Value){Q:SC->Prop}:∀(l:List aJ) (s i u q:Nat),(∀(j:Nat) (p:aJ) (d n:Nat),l[j]?=p->Q (⟨d,n,p⟩,cells (i+j)))->∀x∈MC cells l s i u q,Q x
 | [],_,_,_,_,_,x,hx=>by rw[MC] at hx;simp at hx
 | p::l,s,i,u,q,h,x,hx=>by
   rw[MC,z12] at hx
   rcases hx with hx | hx
   ·split at hx
    ·rw[og] at hx;subst hx;exact h 0 p _ _ rfl
    simp at hx
   exact ags cells l s (i+1) (4*u) (q / 4) (λj p' d n hj=>by have:=h (j+1) p' d n (by simpa using hj);rwa [show i+(j+1)=i+1+j by omega] at this) x hx
theorem anm(cells:Nat->List Value){l:List aJ}{p:aJ}(h:l[i]?=p)(s u q:Nat):MC cells (l.drop i) s i u q=(if ((q % 4:Nat):Int)<p.mx then [(⟨s+u,i+1,p⟩,cells i)] else [])++MC cells (l.drop (i+1)) s (i+1) (4*u) (q / 4):=by
 obtain⟨hi,rfl⟩:=z4.1 h;rw[nZ hi,MC]
def rl1(cells:Nat->List Value)(pl:List aU)(i:Nat):List SC:=match pl[i]? with
 | some q=>[(⟨i+1,q.num,q.leaf⟩,cells i)]
 | none=>[]
def zX(cells:Nat->List Value)(pl:List aU)(l:List Nat):List SC:=l.flatMap (rl1 cells pl)
theorem agt(cells:Nat->List Value)(pl:List aU):∀l:List Nat,(zX cells pl l).map (·.1)=l.flatMap (CP pl)
 | []=>rfl
 | i::l=>by
   have:=agt cells pl l;unfold zX at this ⊢;rw[l4,l4,Qb,this]
   congr 1
   unfold rl1 CP;cases pl[i]?<;>rfl
theorem arG(cells:Nat->List Value)(pl:List aU){Q:SC->Prop}(l:List Nat)(h:∀(i:Nat) (q:aU),pl[i]?=q->Q (⟨i+1,q.num,q.leaf⟩,cells i)):∀x∈zX cells pl l,Q x:=λx hx=>by
 unfold zX at hx;obtain⟨i,_,hi⟩:=List.mem_flatMap.1 hx;unfold rl1 at hi
 cases hq:pl[i]? with
 | none=>rw[hq] at hi;simp at hi
 | some q=>
   rw[hq,og] at hi;subst hi;exact h i q hq
theorem adl(cells:Nat->List Value){pl:List aU}{k:Nat}(h:l[k]?=i)(hq:pl[i]?=q):zX cells pl (l.take (k+1))=zX cells pl (l.take k)++[(⟨i+1,q.num,q.leaf⟩,cells i)]:=by
 unfold zX;rw[List.take_add_one,h,Option.toList_some,l6,List.flatMap_singleton];unfold rl1;rw[hq]
structure mQ (m:eQ):Prop where
 first:∀i∈m.first,i<m.places.length
 qI:∀(i:Nat) (q:aU),m.places[i]?=q->∀j∈q.follow,j<m.places.length
 last:∀i∈m.last,i<m.places.length
 leaf:∀(i:Nat) (q:aU),m.places[i]?=q->xE m.elems q.leaf
 all:∀p∈m.all,xE m.elems p/\1<=p.mx/\p.mx<=3
 len:m.places.length<=200/\m.all.length<=6/\(m.all≠[]->m.places=[])
 num:∀(i:Nat) (q:aU),m.places[i]?=q->q.num<1000000
theorem agu{m:eQ}(h:mQ m){s:Nat}(i:Nat)(hi:i∈ku m s):i<m.places.length:=by
 unfold ku at hi
 split at hi
 ·exact h.first i hi
 split at hi
 ·rename_i q hq;exact h.qI _ q hq i hi
 simp at hi
