import Derived.Test.YtgmnnegfndpakaaGreatDoorG29
import Derived.Test.YtgmnnegfndpakaaGreatDoorAskA
set_option maxHeartbeats 20000000
set_option maxRecDepth 100000
namespace Go.Proofs.YtgmnnegfndpakaaGreatDoor
open Go.RowKit
theorem aas(m:eQ)(B bm:Nat)(p:aJ)(cs:List Value)(w:World)(hM:mO w B bm m)(hB:B<=w.heap.size)(hr:au w (· <B) (aZ p) cs)(hl:xE m.elems p)(hT:Tab w):
 Rt 83 #[.pointer (some ⟨bm,0,none⟩),.agg cs.toArray] w (.bool (Hr m.elems p)):=by
 obtain⟨eA,en,ec,pA,pn,pU,fA,fn,fc,mb,aA,an,ac,uD,GH,-,hE,-,-,-,-,-,jR,-⟩:=hM;obtain⟨k,mn,mx,el,ck,ns,nl,sp,A1,n1,c1,A2,n2,c2,pr,A,n,c,rfl,hk,-,-,lT,-,eH,-⟩:=aW hr;obtain⟨w1,bI,S1,nC,ai⟩:=af w (.cells #[.int .i64 k,.int .i64 mn,.int .i64 mx,.int .i64 el,.int .i64 ck,.string ns,.string nl,.string sp,.slice A1 n1 c1,.slice A2 n2 c2,.int .i64 pr,.slice A n c] 29)
 have e1:w1.heap.size=w.heap.size+1:=by rw[<-bI];simp
 obtain⟨q0,q1,q2,q3,q4,q5,q6,q7,q8,q9,aF,aG⟩:=aj S1;have Ru:w1.heap[bm]?=some (.cells #[.slice eA en ec,.slice pA pn pU,.slice fA fn fc,.map (some mb),.bool m.empty,.slice aA an ac] 169):=(ai.block bm zO).trans uD;obtain⟨m0,m1,m2,m3,m4,m5⟩:=uK Ru;obtain⟨v,hv⟩:=zF (Hr m.elems p);rw[hv];have HV:=zH hv;clear S1 hv uD Ru;by_cases eu:k=1
 ·subst eu
  obtain⟨h0,h1⟩:=hl hk;rw[lT] at h0 h1;obtain⟨i,rfl⟩:∃i:Nat,el=i:=⟨el.toNat,zO⟩;have hlen:=hE.1;rw[List.length_map] at hlen
  have hi:i<en:=by omega
  clear hlen;obtain⟨ob,off,x,Ax,nx,cx,HX,hxn,aI,GI,dO⟩:=(hE.below (ai.mono hB)).Uk hi ec;have xw:=aI.1
  have DV:decide (0<nx)=v:=by
   have h:=HV.out;unfold Hr elemAt at h;rw[hk,if_pos rfl,lT,Int.toNat_natCast,HX.out] at h;rw[<-h,xw];rfl
  have hk0:((1:Int)==1)=true:=rfl;clear aI hl hE eH hr h0 h1 hT xw;go_enter Tryz.func83,Tryz.ntmps83;go_wp2_with fail;have sm0:=Since.cell m0;have sq3:=Since.cell q3;have sc1:=Since.cell GI;refine yh zK zK ?_
  repeat (quiet_step (fail))
  refine wpQuiet_nil ?_;intro wq hq;have Xo:=Ap hq;clear hq;go_wp2_with fail;go_ret;exact⟨by rw[<-DV];simp,ai.seq Xo⟩
 ·have hk0:(k==1)=false:=by simpa using eu
  obtain⟨x1,Cb⟩:=zF (IK (jF p.cls) (!(TF (ahc 0 p.cls p.cls) (jP [p.cls,p.cls] ([],[])))));obtain⟨x2,FI⟩:=zF (jF p.cls)
  have DV:(!x1&&decide (x2=0))=v:=by
   have h:=HV.out;unfold Hr at h;rw[hk,if_neg eu] at h;rw[<-Cb,<-FI];exact h
  have QA:=zH DV
  have HH:Hid (Rt 146 #[.agg #[.int .i64 ck,.string ns,.string nl,.string sp,.slice A1 n1 c1,.slice A2 n2 c2]] w1 (.tuple #[.bool x1,.int .i64 x2])):=zH (by
   have h:=akH p.cls _ w1 _ (eH.keep (F':=λ_=>True) λq hq _=>⟨trivial,ai.block q zO⟩) (hT.below ai)
   rw[Cb,FI] at h;exact h)
  clear DV Cb FI hl hE eH hr hk hT;go_enter Tryz.func83,Tryz.ntmps83;go_wp2_with fail;refine HH.out.mono ?_;rintro e w2 ⟨rfl,ag⟩;cases x1
  all_goals
   by_cases hx:x2=0
   all_goals
    have hxx:(x2==0)=decide (x2=0):=rfl;have HX:=zH hx;go_wp2_with fail;go_ret;exact⟨by rw[<-QA.out];simp[HX.out],ai.seq ag⟩
theorem akI{l:List aJ}{i:Nat}{p:aJ}(h:l[i]?=some p)(s:Nat):II (l.drop i) s=(decide (p.mn<=((s % 4:Nat):Int))&&decide (((s % 4:Nat):Int)<=p.mx)&&II (l.drop (i+1)) (s / 4)):=by
 obtain⟨hi,rfl⟩:=List.getElem?_eq_some_iff.1 h;rw[List.drop_eq_getElem_cons hi,II]
theorem aat(m:eQ)(B bm s:Nat)(w:World)(hM:mO w B bm m)(hB:B<=w.heap.size)(hs:s<1000000):
 Rt 126 #[.pointer (some ⟨bm,0,none⟩),.int .i64 s] w (.bool (wH m s)):=by
 obtain⟨eA,en,ec,pA,pn,pU,fA,fn,fc,mb,aA,an,ac,uD,GH,hmB,-,-,-,BB,tJ,EI,-,-,-,han⟩:=hM;obtain⟨m0,m1,m2,m3,m4,m5⟩:=uK uD;by_cases VK:m.all=[]
 ·have haA:aA=none:=EI.1 VK
  subst haA;obtain⟨v,hv⟩:=zF (wH m s);rw[hv]
  have hn0:an=0:=by have:=tJ.1;rw[VK] at this;exact this
  subst hn0;obtain⟨me,hme⟩:=zF m.empty;obtain⟨L,hL⟩:=zF (xx m.last);rw[hL] at BB;obtain⟨r,hr⟩:=zF ((dP jL (s:Int) L).getD false)
  have DV:((decide (s=0)&&me)||r)=v:=by
   rw[<-hv,<-hr,<-hL,akc];unfold wH;rw[VK,<-hme];rfl
  have QA:=zH DV;rw[hme] at m4
  have pg:(Instr.lookup 122 (.map (some mb)) (.int .i64 (s:Int)) false).run Tryz.prog w= .ok (.bool r) w:=by
   have h:=qX (P:=Tryz.prog) (zv:=.bool false) qJ Tryz.underlying122 (λW=>by kernel_rfl) BB (s:Int) false;rw[<-hr];refine h.trans ?_;cases dP jL (s:Int) L<;>rfl
  have aIl:=amU 0 ac
  have QG:((s:Int)==0)=decide (s=0):=by rw[Bool.eq_iff_iff];simp
  have Jc:Hid (s=0\/s≠0):=zH zO;clear hme BB hL hr DV tJ hv VK EI han;obtain⟨z0,xm⟩:=zF (decide (s=0));rw[xm] at QG;have HZ1:=zH xm;clear xm;cases z0
  all_goals cases me
  all_goals
   go_enter Tryz.func126,Tryz.ntmps126;go_wp2_with fail;go_ret;exact⟨by rw[<-QA.out,HZ1.out];simp,Below.refl _ _⟩
 ·have hlen:=tJ.1
  rw[List.length_map] at hlen
  have kD:0<an:=by rw[hlen];exact List.length_pos_iff.2 VK
  obtain⟨ab,ao,haA,-⟩:=tJ.2 kD;subst haA;have heq:=akg ab ao an ac
  have hR:wH m s=II m.all s:=by
   unfold wH;rw[if_neg (by simpa using VK)]
  rw[hR];obtain⟨R,hRR⟩:=zF (II m.all s);rw[hRR];have pR:=zH hlen;have H0:Hid (II (m.all.drop 0) s=R):=zH (by rw[List.drop_zero];exact hRR);have HAL:=zH (tJ.keep (F':=(· <w.heap.size)) (w':=w) λb hb=>⟨zO,rfl⟩);have HB0:=zH uD;clear tJ hlen hR hRR EI BB VK uD;go_enter Tryz.func126,Tryz.ntmps126;go_wp2_with fail
  go_loopw [1,34] (λs1 si wr=>∃(i q:Nat),i<=an/\si= .int .i64 i/\s1= .int .i64 q/\q<1000000/\Hid (II (m.all.drop i) q=R)/\Bw w wr)
   (λ_ si _=>an - (intOf si).toNat)
  case atStart=>exact⟨0,s,zO,rfl,rfl,hs,H0,Below.refl _ _⟩
  case round=>
   obtain⟨i,q,hi,rfl,rfl,hq,HQ,aH⟩:=hrel;clear m0 m1 m2 m3 m4 m5;obtain⟨m0,m1,m2,m3,m4,m5⟩:=uK (ae HB0.out aH);by_cases aN:i<an
   ·have jV:decide (i<an)=true:=by simp;omega
    obtain⟨b,off,px,v0,v1,v2,v3,v4,v5,v6,v7,v8,v9,v10,v11,HX,eG,z0,z1,z2,z3,z4,z5,z6,z7,z8,z9,nZ,og,dO⟩:=(HAL.out.below aH).DW aN ac;obtain⟨kx,gU,gz,gZ,ig,ik,iq,iw,iy,iC,iD,iE,iF,iG,iH,Ax,nx,cx,fJ,hkx,atQ,ahN,-⟩:=aW eG;simp only[List.cons.injEq,and_true] at fJ;obtain⟨rfl,rfl,rfl,rfl,rfl,rfl,rfl,rfl,rfl,rfl,rfl,rfl⟩:=fJ;have bZ:=HQ.out;rw[akI HX.out,atQ,ahN] at bZ;obtain⟨wa,BK,SA,Vg,bJ⟩:=af wr (.cells #[.int .i64 kx,.int .i64 gU,.int .i64 gz,.int .i64 gZ,.int .i64 ig,.string ik,.string iq,.string iw,.slice iy iC iD,.slice iE iF iG,.int .i64 iH,.slice Ax nx cx] 29);have x0:=aj SA;have Ew:=aH.seq bJ;clear SA eG hkx atQ ahN;have ank:(q:Int).tmod 4=((q % 4:Nat):Int):=(by rw[Int.tmod_eq_emod_of_nonneg zO];omega);have ahO:(q:Int).tdiv 4=((q / 4:Nat):Int):=(by rw[Int.tdiv_eq_ediv_of_nonneg zO];omega);obtain⟨g,hg⟩:=zF (q % 4);rw[hg] at ank bZ;have CY:g<4:=(by omega);have HG:=zH hg;clear hg;by_cases h1:(g:Int)<gU
    ·have hRf:R=false:=by
      rw[<-bZ];have:decide (gU<=(g:Int))=false:=(by simp;omega);rw[this];rfl
     have HRF:=zH hRf;clear bZ hRf;go_wp2_with fail;go_ret;exact⟨by rw[HRF.out];rfl,Ew⟩
    ·by_cases h2:gz<(g:Int)
     ·have hRf:R=false:=by
       rw[<-bZ];have:decide ((g:Int)<=gz)=false:=(by simp;omega);rw[this];simp
      have HRF:=zH hRf;clear bZ hRf;go_wp2_with fail;go_ret;exact⟨by rw[HRF.out];rfl,Ew⟩
     ·have hn:II (m.all.drop (i+1)) (q / 4)=R:=by
       rw[<-bZ];have a1:decide (gU<=(g:Int))=true:=(by simp;omega);have a2:decide ((g:Int)<=gz)=true:=(by simp;omega);rw[a1,a2];rfl
      have HN:=zH hn;clear bZ hn;go_wp2_with fail;go_roundw
      case rel=>exact⟨i+1,q / 4,zO,by go_num,by first | rfl | (simp[ahO];done) | go_num,zO,HN,Ew⟩
      case measure=>simp[intOf];omega
   ·have jV:decide (i<an)=false:=by simp;omega
    have hRt:R=true:=by
     have h:=HQ.out;rw[z14 (by have:=pR.out;omega),II] at h;exact h.symm
    have HRT:=zH hRt;clear hRt;go_wp2_with fail;go_ret;exact⟨by rw[HRT.out];rfl,aH⟩
theorem akL(g:Nat)(q:Nat->Bool)(l:List Nat)(A:Option Addr)(n c:Nat)(w:World)(F:Nat->Prop)(bQ:aY w F 1 aV l A n)(hn:n<6000000000000)
 (eH:∀s∈l,∀(W:World),Bw w W->Rt 141 #[.int .i64 (s:Int),.pointer (some ⟨g,0,none⟩)] W (.bool (q s))):
 Rt 168 #[.slice A n c,.func (.func 141) #[] #[.pointer (some ⟨g,0,none⟩)]] w (.int .i64 (kE (q) l 0)):=by
 have aI:=bQ.here (λx=>by simp[aV]);have HN:Hid (n=l.length):=zH aI.1;have vJ:=zH eH;clear bQ eH;go_enter Tryz.func168,Tryz.ntmps168;go_wp2_with fail
 go_loopw [8] (λsi wr=>∃i:Nat,i<=n/\si= .int .i64 i/\Hid (kE (q) l 0=kE (q) (l.drop i) i)/\Bw w wr)
  (λsi _=>n - (intOf si).toNat)
 case atStart=>exact⟨0,zO,rfl,zH rfl,Below.refl _ _⟩
 case round=>
  obtain⟨i,hi,rfl,HL,aH⟩:=hrel;by_cases aN:i<n
  ·obtain⟨b,off,s,HX,jw,dO⟩:=(aI.below aH).nat aN c
   have hd:decide (i<n)=true:=(by simp;omega);obtain⟨v,hv⟩:=zF ((q) s);have HS:=zH (yL (p:=(q)) HX.out);rw[hv] at HS;have HC:Hid (Rt 141 #[.int .i64 (s:Int),.pointer (some ⟨g,0,none⟩)] wr (.bool v)):=zH (by rw[<-hv];exact vJ.out s (z13 HX.out) wr aH);clear hv;cases v
   ·go_wp2_with fail
    refine HC.out.mono ?_;rintro e w3 ⟨rfl,az⟩;go_wp2_with fail;go_roundw
    case rel=>exact⟨i+1,zO,by go_num,zH (by rw[HL.out,HS.out];rfl),aH.trans (az.mono aH.size)⟩
    case measure=>simp[intOf];omega
   ·go_wp2_with fail
    refine HC.out.mono ?_;rintro e w3 ⟨rfl,az⟩;go_wp2_with fail;go_ret;exact⟨iU (by rw[HL.out,HS.out];rfl),aH.trans (az.mono aH.size)⟩
  ·have hd:decide (i<n)=false:=by simp;omega
   have HE:Hid (l.drop i=[]):=zH (z14 (by have:=HN.out;omega));go_wp2_with fail;go_ret;exact⟨iU (by rw[HL.out,HE.out,kE]),aH⟩
theorem YP(g:Nat)(q:Nat->Bool)(l:List Nat)(A:Option Addr)(n c:Nat)(w:World)(F:Nat->Prop)(bQ:aY w F 1 aV l A n)(hn:n<6000000000000)
 (eH:∀s∈l,∀(W:World),Bw w W->Rt 141 #[.int .i64 (s:Int),.pointer (some ⟨g,0,none⟩)] W (.bool (q s))):
 Rt 125 #[.slice A n c,.func (.func 141) #[] #[.pointer (some ⟨g,0,none⟩)]] w (.bool (l.any (q))):=by
 have HC:=zH (akL g q l A n c w F bQ hn eH);obtain⟨r,hr⟩:=zF (kE (q) l 0);have HD:Hid (decide (0<=r)=l.any (q)):=zH (by rw[<-hr];exact tY (q) l 0);rw[hr] at HC;clear bQ eH hr;go_enter Tryz.func125,Tryz.ntmps125;go_wp2_with fail;refine HC.out.mono ?_;rintro e w2 ⟨rfl,ag⟩;go_wp2_with fail;go_ret;exact⟨aK HD.out,ag⟩
theorem ahP(bm:Nat)(q:Nat->Bool)(l:List Nat)(A:Option Addr)(n c:Nat)(w:World)(F:Nat->Prop)(bQ:aY w F 1 aV l A n)(hn:n<6000000000000)
 (eH:∀s∈l,∀(W:World),Bw w W->Rt 126 #[.pointer (some ⟨bm,0,none⟩),.int .i64 (s:Int)] W (.bool (q s))):
 Rt 168 #[.slice A n c,.func (.func 126) #[.pointer (some ⟨bm,0,none⟩)] #[]] w (.int .i64 (kE (q) l 0)):=by
 have aI:=bQ.here (λx=>by simp[aV]);have HN:Hid (n=l.length):=zH aI.1;have vJ:=zH eH;clear bQ eH;go_enter Tryz.func168,Tryz.ntmps168;go_wp2_with fail
 go_loopw [8] (λsi wr=>∃i:Nat,i<=n/\si= .int .i64 i/\Hid (kE (q) l 0=kE (q) (l.drop i) i)/\Bw w wr)
  (λsi _=>n - (intOf si).toNat)
 case atStart=>exact⟨0,zO,rfl,zH rfl,Below.refl _ _⟩
 case round=>
  obtain⟨i,hi,rfl,HL,aH⟩:=hrel;by_cases aN:i<n
  ·obtain⟨b,off,s,HX,jw,dO⟩:=(aI.below aH).nat aN c
   have hd:decide (i<n)=true:=(by simp;omega);obtain⟨v,hv⟩:=zF ((q) s);have HS:=zH (yL (p:=(q)) HX.out);rw[hv] at HS;have HC:Hid (Rt 126 #[.pointer (some ⟨bm,0,none⟩),.int .i64 (s:Int)] wr (.bool v)):=zH (by rw[<-hv];exact vJ.out s (z13 HX.out) wr aH);clear hv;cases v
   ·go_wp2_with fail
    refine HC.out.mono ?_;rintro e w3 ⟨rfl,az⟩;go_wp2_with fail;go_roundw
    case rel=>exact⟨i+1,zO,by go_num,zH (by rw[HL.out,HS.out];rfl),aH.trans (az.mono aH.size)⟩
    case measure=>simp[intOf];omega
   ·go_wp2_with fail
    refine HC.out.mono ?_;rintro e w3 ⟨rfl,az⟩;go_wp2_with fail;go_ret;exact⟨iU (by rw[HL.out,HS.out];rfl),aH.trans (az.mono aH.size)⟩
  ·have hd:decide (i<n)=false:=by simp;omega
   have HE:Hid (l.drop i=[]):=zH (z14 (by have:=HN.out;omega));go_wp2_with fail;go_ret;exact⟨iU (by rw[HL.out,HE.out,kE]),aH⟩
theorem XE(bm:Nat)(q:Nat->Bool)(l:List Nat)(A:Option Addr)(n c:Nat)(w:World)(F:Nat->Prop)(bQ:aY w F 1 aV l A n)(hn:n<6000000000000)
 (eH:∀s∈l,∀(W:World),Bw w W->Rt 126 #[.pointer (some ⟨bm,0,none⟩),.int .i64 (s:Int)] W (.bool (q s))):
 Rt 125 #[.slice A n c,.func (.func 126) #[.pointer (some ⟨bm,0,none⟩)] #[]] w (.bool (l.any (q))):=by
 have HC:=zH (ahP bm q l A n c w F bQ hn eH);obtain⟨r,hr⟩:=zF (kE (q) l 0);have HD:Hid (decide (0<=r)=l.any (q)):=zH (by rw[<-hr];exact tY (q) l 0);rw[hr] at HC;clear bQ eH hr;go_enter Tryz.func125,Tryz.ntmps125;go_wp2_with fail;refine HC.out.mono ?_;rintro e w2 ⟨rfl,ag⟩;go_wp2_with fail;go_ret;exact⟨aK HD.out,ag⟩
def jY(w:World)(g:Nat)(live:List Nat):Prop:=∃L,gQ w g vM bV L/\∀s:Nat,(dP jL (s:Int) L).getD false=decide (s∈live)
theorem jY.keep{w w':World}{g:Nat}{live:List Nat}(h:jY w g live)(hb:w'.heap[g]?=w.heap[g]?):jY w' g live:=by
 obtain⟨L,h1,h2⟩:=h;exact⟨L,h1.keep hb,h2⟩
theorem jY.lt{w:World}{g:Nat}{live:List Nat}(h:jY w g live):g<w.heap.size:=by
 obtain⟨L,h1,h2⟩:=h;exact h1.lt
theorem jY.look{w:World}{g:Nat}{live:List Nat}(h:jY w g live)(s:Nat):(Instr.lookup 122 (.map (some g)) (.int .i64 (s:Int)) false).run Tryz.prog w= .ok (.bool (decide (s∈live))) w:=by
 obtain⟨L,h1,h2⟩:=h;have h:=qX (P:=Tryz.prog) (zv:=.bool false) qJ Tryz.underlying122 (λW=>by kernel_rfl) h1 (s:Int) false;rw[<-h2 s];refine h.trans ?_;cases dP jL (s:Int) L<;>rfl
theorem afj(g mb:Nat)(live:List Nat)(s:Nat)(w:World)(hg:w.heap[g]?=some (.cells #[.map (some mb)] 122))(hm:jY w mb live):
 Rt 141 #[.int .i64 s,.pointer (some ⟨g,0,none⟩)] w (.bool (decide (s∈live))):=by
 have c0:=aO hg;have pg:=hm.look s;obtain⟨v,hv⟩:=zF (decide (s∈live));rw[hv] at pg ⊢;clear hg hm hv;go_enter Tryz.func141,Tryz.ntmps141;go_wp2_with fail;go_ret;exact⟨rfl,Below.refl _ _⟩
theorem H8(mb:Nat)(live l:List Nat)(A:Option Addr)(n c:Nat)(w:World)(F:Nat->Prop)(aI:aY w F 1 aV l A n)(hn:n<6000000000000)(hm:jY w mb live):
 Rt 74 #[.slice A n c,.map (some mb)] w (.bool (EX l live)):=by
 obtain⟨w1,bI,S1,nC,ai⟩:=af w (.cells #[.map (some mb)] 122);have HC:=zH (YP w.heap.size (λs=>decide (s∈live)) l A n c w1 _ ((aI.here (λx=>by simp[aV])).below ai) hn (λs _ W hb=>afj w.heap.size mb live s W (ae S1 hb) ((hm.keep (ai.block mb hm.lt)).keep (hb.block mb (by have:=hm.lt;have:=ai.size;omega)))));clear aI hm S1;go_enter Tryz.func74,Tryz.ntmps74;go_wp2_with fail;refine HC.out.mono ?_;rintro e w2 ⟨rfl,ag⟩;go_wp2_with fail;go_ret;exact⟨rfl,ai.seq ag⟩
theorem Ip(m:eQ)(B bm:Nat)(l:List Nat)(A:Option Addr)(n c:Nat)(w:World)(F:Nat->Prop)(hM:mO w B bm m)(hB:B<=w.heap.size)(aI:aY w F 1 aV l A n)(hn:n<6000000000000)(hl:∀s∈l,s<1000000):
 Rt 59 #[.pointer (some ⟨bm,0,none⟩),.slice A n c] w (.bool (qA m l)):=by
 have HC:=zH (XE bm (wH m) l A n c w F aI hn (λs hs W hb=>aat m B bm s W (hM.below (hb.mono hB)) (by have:=hb.size;omega) (hl s hs)));clear aI hM hl;go_enter Tryz.func59,Tryz.ntmps59;go_wp2_with fail;refine HC.out.mono ?_;rintro e w2 ⟨rfl,ag⟩;go_wp2_with fail;go_ret;exact⟨rfl,ag⟩
abbrev SC:=Stp×List Value
def EK(x:SC):Array Value:=#[.agg (([.int .i64 x.1.dst,.int .i64 x.1.num]:List Value)++x.2).toArray]
def rdC(w:World)(b off:Nat):List Value:=(List.range 12).map λj=>(w.cell? ⟨b,off+j,none⟩).getD undef
theorem akN{w:World}{b off:Nat}{lc r:List Value}(h:cu w b off (lc++r))(hl:lc.length=12):rdC w b off=lc:=by
 apply List.ext_getElem?;intro j;unfold rdC;rw[z17];by_cases hj:j<12
 ·rw[List.getElem?_range hj]
  have hx:lc[j]?=some (lc[j]'zO):=z6 zO;have h2:=h j _ (by rw[z20 zO];exact hx);rw[hx];show some ((w.cell? ⟨b,off+j,none⟩).getD undef)=_;rw[h2];rfl
 ·rw[List.getElem?_eq_none (by simp;omega),List.getElem?_eq_none zO];rfl
theorem au.split{w:World}{F:Nat->Prop}:∀{a b:List D} {cs:List Value},au w F (a++b) cs->∃ca cb,cs=ca++cb/\au w F a ca/\au w F b cb
 | [],b,cs,h=>⟨[],cs,rfl,by rw[au.oL],h⟩
 | d::a,b,cs,h=>by
   rw[List.cons_append,au.gu] at h;obtain⟨v,r,rfl,h1,h2⟩:=h;obtain⟨ca,cb,rfl,h3,h4⟩:=au.split h2;exact⟨v::ca,cb,rfl,by rw[au.gu];exact⟨v,ca,rfl,h1,h3⟩,h4⟩
theorem akO{w:World}{F:Nat->Prop}{q:aU}{cs:List Value}(h:au w F (Jb q) cs):∃lc fA fn fc,cs=lc++[.int .i64 q.num,.slice fA fn fc]/\lc.length=12/\au w F (aZ q.leaf) lc/\fn<6000000000000/\bM w F 1 (q.follow.map Dl) fA fn:=by
 unfold Jb at h;obtain⟨lc,cb,rfl,h1,h2⟩:=h.split;rw[au.gu] at h2;obtain⟨v,r,rfl,h3,h4⟩:=h2;rw[au.gu] at h4;obtain⟨v2,r2,rfl,h5,h6⟩:=h4;rw[au.oL] at h6;rw[gI.rq] at h3;subst h3;subst h6;obtain⟨fA,fn,fc,rfl,h7,h8⟩:=h5.row;exact⟨lc,fA,fn,fc,rfl,by rw[h1.len,abS],h1,h7,h8⟩
theorem adk{w:World}{F:Nat->Prop}{l:List Nat}{A:Option Addr}{n:Nat}(h:bM w F 1 (l.map Dl) A n):aY w F 1 aV l A n:=by
 refine⟨by rw[h.1,z8],λhp=>?_⟩;obtain⟨b,off,hA,hb,hr⟩:=h.2 (by rw[h.1,z8];exact hp);refine⟨b,off,hA,hb,λi x hx=>?_⟩;obtain⟨cs,h1,h2⟩:=hr.get i (Dl x) (by rw[z17,hx];rfl);unfold Dl at h2;simp only[au.gu,au.oL,gI.rq] at h2;obtain⟨_,_,rfl,rfl,rfl⟩:=h2;exact h1
def MC(cells:Nat->List Value):List aJ->Nat->Nat->Nat->Nat->List SC
 | [],_,_,_,_=>[]
 | p::l,s,i,u,q=>(if ((q % 4:Nat):Int)<p.mx then [(⟨s+u,i+1,p⟩,cells i)] else [])++MC cells l s (i+1) (4*u) (q / 4)
theorem agr(cells:Nat->List Value):∀(l:List aJ) (s i u q:Nat),(MC cells l s i u q).map (·.1)=qH l s i u q
 | [],_,_,_,_=>rfl
 | p::l,s,i,u,q=>by
   rw[MC,qH,List.map_append,agr cells l]
   split<;>rfl
theorem ags(cells:Nat->List Value){Q:SC->Prop}:∀(l:List aJ) (s i u q:Nat),(∀(j:Nat) (p:aJ) (d n:Nat),l[j]?=some p->Q (⟨d,n,p⟩,cells (i+j)))->∀x∈MC cells l s i u q,Q x
 | [],_,_,_,_,_,x,hx=>by rw[MC] at hx;simp at hx
 | p::l,s,i,u,q,h,x,hx=>by
   rw[MC,z12] at hx
   rcases hx with hx | hx
   ·split at hx
    ·rw[og] at hx
     subst hx;exact h 0 p _ _ rfl
    ·simp at hx
   ·exact ags cells l s (i+1) (4*u) (q / 4) (λj p' d n hj=>by have:=h (j+1) p' d n (by simpa using hj);rwa [show i+(j+1)=i+1+j by omega] at this) x hx
theorem anm(cells:Nat->List Value){l:List aJ}{i:Nat}{p:aJ}(h:l[i]?=some p)(s u q:Nat):MC cells (l.drop i) s i u q=(if ((q % 4:Nat):Int)<p.mx then [(⟨s+u,i+1,p⟩,cells i)] else [])++MC cells (l.drop (i+1)) s (i+1) (4*u) (q / 4):=by
 obtain⟨hi,rfl⟩:=List.getElem?_eq_some_iff.1 h;rw[nZ hi,MC]
def rl1(cells:Nat->List Value)(pl:List aU)(i:Nat):List SC:=match pl[i]? with
 | some q=>[(⟨i+1,q.num,q.leaf⟩,cells i)]
 | none=>[]
def zX(cells:Nat->List Value)(pl:List aU)(l:List Nat):List SC:=l.flatMap (rl1 cells pl)
theorem agt(cells:Nat->List Value)(pl:List aU):∀l:List Nat,(zX cells pl l).map (·.1)=l.flatMap (CP pl)
 | []=>rfl
 | i::l=>by
   have:=agt cells pl l;unfold zX at this ⊢;rw[List.flatMap_cons,List.flatMap_cons,List.map_append,this]
   congr 1
   unfold rl1 CP;cases pl[i]?<;>rfl
theorem arG(cells:Nat->List Value)(pl:List aU){Q:SC->Prop}(l:List Nat)(h:∀(i:Nat) (q:aU),pl[i]?=some q->Q (⟨i+1,q.num,q.leaf⟩,cells i)):∀x∈zX cells pl l,Q x:=λx hx=>by
 unfold zX at hx;obtain⟨i,_,hi⟩:=List.mem_flatMap.1 hx;unfold rl1 at hi
 cases hq:pl[i]? with
 | none=>rw[hq] at hi;simp at hi
 | some q=>
   rw[hq,og] at hi;subst hi;exact h i q hq
theorem adl(cells:Nat->List Value){pl:List aU}{l:List Nat}{k i:Nat}{q:aU}(h:l[k]?=some i)(hq:pl[i]?=some q):zX cells pl (l.take (k+1))=zX cells pl (l.take k)++[(⟨i+1,q.num,q.leaf⟩,cells i)]:=by
 unfold zX;rw[List.take_add_one,h,Option.toList_some,List.flatMap_append,List.flatMap_singleton];unfold rl1;rw[hq]
structure mQ (m:eQ):Prop where
 first:∀i∈m.first,i<m.places.length
 qI:∀(i:Nat) (q:aU),m.places[i]?=some q->∀j∈q.follow,j<m.places.length
 last:∀i∈m.last,i<m.places.length
 leaf:∀(i:Nat) (q:aU),m.places[i]?=some q->xE m.elems q.leaf
 all:∀p∈m.all,xE m.elems p/\1<=p.mx/\p.mx<=3
 len:m.places.length<=200/\m.all.length<=6/\(m.all≠[]->m.places=[])
 num:∀(i:Nat) (q:aU),m.places[i]?=some q->q.num<1000000
theorem agu{m:eQ}(h:mQ m){s:Nat}(i:Nat)(hi:i∈ku m s):i<m.places.length:=by
 unfold ku at hi
 split at hi
 ·exact h.first i hi
 ·split at hi
  ·rename_i q hq
   exact h.qI _ q hq i hi
  ·simp at hi
end Go.Proofs.YtgmnnegfndpakaaGreatDoor
namespace Go.Proofs.YtgmnnegfndpakaaGreatDoor
open Go.RowKit
attribute [local go_sem] Oper.semAt_some
theorem RU(bm s:Nat)(w:World):
 Calls Tryz.prog 82 #[.pointer (some ⟨bm,0,none⟩),.int .i64 s] w λe w'=>e= .returned (.func (.func 145) #[] #[.pointer (some ⟨w.heap.size,0,none⟩),.pointer (some ⟨w.heap.size+1,0,none⟩)])/\w'.heap[w.heap.size]?=some (.cells #[.pointer (some ⟨bm,0,none⟩)] 93)/\w'.heap[w.heap.size+1]?=some (.cells #[.int .i64 s] 3)/\w'.heap.size=w.heap.size+2/\Bw w w':=by
 obtain⟨w1,bI,S1,S2,nC,ai⟩:=ed w (.cells #[.pointer (some ⟨bm,0,none⟩)] 93) (.cells #[.int .i64 s] 3)
 have e1:w1.heap.size=w.heap.size+2:=by rw[<-bI];simp
 have aQ:=zH S1;have gY:=zH S2;clear S1 S2;go_enter Tryz.func82,Tryz.ntmps82;go_wp2_with fail;go_ret;exact⟨rfl,aQ.out,gY.out,e1,ai⟩
def Gs(w:World)(F:Nat->Prop)(bm:Nat)(m:eQ):Prop:=
 ∃eA en ec pA pn pc fA fn fc mb aA an ac,w.heap[bm]?=some (.cells #[.slice eA en ec,.slice pA pn pc,.slice fA fn fc,.map (some mb),.bool m.empty,.slice aA an ac] 169)/\F bm/\F mb/\
  bM w F 1 (m.elems.map nU) eA en/\bM w F 14 (m.places.map Jb) pA pn/\bM w F 1 (m.first.map Dl) fA fn/\gQ w mb vM bV (xx m.last)/\bM w F 12 (m.all.map aZ) aA an/\
  (m.all=[]↔aA=none)/\en<6000000000000/\pn<6000000000000/\fn<6000000000000/\an<6000000000000
theorem Gs.r{w:World}{B bm:Nat}{m:eQ}(h:Gs w (· <B) bm m):mO w B bm m:=h
theorem Gs.keep{w w':World}{F F':Nat->Prop}{bm:Nat}{m:eQ}(h:Gs w F bm m)(hF:∀b,F b->F' b/\w'.heap[b]?=w.heap[b]?):Gs w' F' bm m:=by
 obtain⟨eA,en,ec,pA,pn,pc,fA,fn,fc,mb,aA,an,ac,h1,h2,h3,h4,h5,h6,h7,h8,h9⟩:=h;exact⟨eA,en,ec,pA,pn,pc,fA,fn,fc,mb,aA,an,ac,(hF bm h2).2.trans h1,(hF bm h2).1,(hF mb h3).1,h4.keep hF,h5.keep hF,h6.keep hF,h7.keep (hF mb h3).2,h8.keep hF,h9⟩
theorem XG{w:World}{F:Nat->Prop}{l:List aU}{b off:Nat}(h:bK w F 14 (l.map Jb) b off){i:Nat}{q:aU}(hq:l[i]?=some q):
 ∃v0 v1 v2 v3 v4 v5 v6 v7 v8 v9 v10 v11 xA xn xc,rdC w b (off+i*14)=[v0,v1,v2,v3,v4,v5,v6,v7,v8,v9,v10,v11]/\au w F (aZ q.leaf) [v0,v1,v2,v3,v4,v5,v6,v7,v8,v9,v10,v11]/\xn<6000000000000/\aY w F 1 aV q.follow xA xn/\cu w b (off+i*14) [v0,v1,v2,v3,v4,v5,v6,v7,v8,v9,v10,v11,.int .i64 q.num,.slice xA xn xc]:=by
 obtain⟨cs,h1,h2⟩:=h.get i (Jb q) (by rw[z17,hq];rfl);obtain⟨lc,xA,xn,xc,rfl,hl,h3,h4,h5⟩:=akO h2;obtain⟨k,mn,mx,el,ck,ns,nl,s,A1,n1,c1,A2,n2,c2,pr,A,n,c,rfl,-⟩:=aW h3;exact⟨_,_,_,_,_,_,_,_,_,_,_,_,xA,xn,xc,akN h1 rfl,h3,h4,adk h5,h1⟩
theorem YQ{w:World}{b o:Nat}{v0 v1 v2 v3 v4 v5 v6 v7 v8 v9 v10 v11 u n:Value}(h:cu w b o [v0,v1,v2,v3,v4,v5,v6,v7,v8,v9,v10,v11,n,u]):w.cell? ⟨b,o,none⟩=some v0/\w.cell? ⟨b,o+1,none⟩=some v1/\w.cell? ⟨b,o+2,none⟩=some v2/\w.cell? ⟨b,o+3,none⟩=some v3/\w.cell? ⟨b,o+4,none⟩=some v4/\w.cell? ⟨b,o+5,none⟩=some v5/\w.cell? ⟨b,o+6,none⟩=some v6/\w.cell? ⟨b,o+7,none⟩=some v7/\w.cell? ⟨b,o+8,none⟩=some v8/\w.cell? ⟨b,o+9,none⟩=some v9/\w.cell? ⟨b,o+10,none⟩=some v10/\w.cell? ⟨b,o+11,none⟩=some v11/\w.cell? ⟨b,o+12,none⟩=some n/\w.cell? ⟨b,o+13,none⟩=some u:=
 ⟨h 0 _ rfl,h 1 _ rfl,h 2 _ rfl,h 3 _ rfl,h 4 _ rfl,h 5 _ rfl,h 6 _ rfl,h 7 _ rfl,h 8 _ rfl,h 9 _ rfl,h 10 _ rfl,h 11 _ rfl,h 12 _ rfl,h 13 _ rfl⟩
theorem aav(m:eQ)(F:Nat->Prop)(bm g1 g2 s:Nat)(w0:World)(X:Nat->Prop)(hM:Gs w0 F bm m)(fQ:mQ m)(hB:∀q,F q->q<w0.heap.size)(h1:w0.heap[g1]?=some (.cells #[.pointer (some ⟨bm,0,none⟩)] 93))(h2:w0.heap[g2]?=some (.cells #[.int .i64 s] 3))(hX:∀q,X q->¬F q/\g1≠q/\g2≠q)(dW:m.all=[])(hs:s<=m.places.length):
 ∃rl:List SC,rl.map (·.1)=gK m s/\(∀x∈rl,au w0 F (aZ x.1.leaf) x.2)/\yF Tryz.prog 145 #[.pointer (some ⟨g1,0,none⟩),.pointer (some ⟨g2,0,none⟩)] EK X (· =rl) (· <+:rl) w0:=by
 obtain⟨eA,en,ec,pA,pn,pU,fA,fn,fc,mb,aA,an,ac,uD,GH,hmB,hE,hP,hF,BB,hA,EI,jR,Py,IU,han⟩:=hM;have haA:aA=none:=EI.1 dW;subst haA;have Az:=hP.1;rw[List.length_map] at Az
 obtain⟨pb,po,hpA,hpb,uq⟩:∃pb po,(0<pn->pA=some ⟨pb,po,none⟩)/\(0<pn->F pb)/\(0<pn->bK w0 F 14 (m.places.map Jb) pb po):=by
  rcases Nat.eq_zero_or_pos pn with h | h
  ·exact⟨0,0,zO,zO,zO⟩
  ·obtain⟨b,off,h1,h2,h3⟩:=hP.2 h
   exact⟨b,off,λ_=>h1,λ_=>h2,λ_=>h3⟩
 obtain⟨cells,hce⟩:∃cells:Nat->List Value,∀i,cells i=rdC w0 pb (po+i*14):=⟨_,λ_=>rfl⟩
 have bZ:gK m s=(ku m s).flatMap (CP m.places):=by unfold gK;rw[dW];rfl
 refine⟨zX cells m.places (ku m s),by rw[agt,bZ],?_,?_⟩
 ·refine arG cells m.places _ λi q hq=>?_
  have kD:0<pn:=by have:=(List.getElem?_eq_some_iff.1 hq).1;omega
  obtain⟨v0,v1,v2,v3,v4,v5,v6,v7,v8,v9,v10,v11,xA,xn,xc,hrd,bH,-⟩:=XG (uq kD) hq;show au w0 F (aZ q.leaf) (cells i);rw[hce,hrd];exact bH
 ·intro n l J Jx W hk h3 hY hJ
  have HY:=zH hY;have H1:=zH h3;have HX:=zH hX;have jr:=zH fQ;have Jj:=zH hce;have Xk:=zH Az;have UF:=zH uq;have HB':Hid (∀q,F q->q<W.heap.size):=zH λq h=>Nat.lt_of_lt_of_le (hB q h) hk.size;have GR:∀q,F q->W.heap[q]?=w0.heap[q]?:=λq h=>hk.block q (hB q h) (λe=>(hX q e).1 h);have S1:=bF h1 hk (λe=>(hX _ e).2.1 rfl);have S2:=bF h2 hk (λe=>(hX _ e).2.2 rfl);have mV:W.heap[bm]?=some (.cells #[.slice eA en ec,.slice pA pn pU,.slice fA fn fc,.map (some mb),.bool m.empty,.slice none an ac] 169):=(GR bm GH).trans uD;have lV:=aC S1;have qo:=aC S2;have c1:=aO S1;have c2:=aO S2;obtain⟨m0,m1,m2,m3,m4,m5⟩:=uK mV;have HW0:=zH GR;have XH:=zH S1;have xC:=zH S2;have HB0:=zH uD;have dD:=amV an ac;have HFI:Hid (aY w0 F 1 aV m.first fA fn):=zH (adk hF);have Gl:=zH dW;clear uq hY h3 hX fQ hce Az hk GR S1 S2 uD mV h1 h2 hE hP hF BB hA EI bZ dW;refine callsIn_of_wp Tryz.func145 rfl trivial ?_ rfl;simp only[Tryz.ntmps145,List.size_toArray,List.length_cons,z24,Nat.reduceAdd,Nat.reduceSub,Array.replicate_succ,Array.replicate_zero,List.push_toArray,List.append_toArray,List.nil_append,List.cons_append];by_cases hs0:s=0
  ·subst hs0
   have hd:decide ((0:Int)<0)=false:=rfl;obtain⟨nA,nn,nc,hN⟩:∃nA nn nc,fA=nA/\fn=nn/\fc=nc:=⟨_,_,_,rfl,rfl,rfl⟩;obtain⟨rfl,rfl,rfl⟩:=hN;have Ky:Hid (aY w0 F 1 aV (ku m 0) fA fn):=zH (by unfold ku;rw[if_pos rfl];exact HFI.out);gi_wp2
   gi_loopw [66] (λs66 wr=>∃k:Nat,k<=fn/\s66= .int .i64 k/\J (zX cells m.places ((ku m 0).take k)) wr/\W.heap.size<=wr.heap.size/\Kept (λq=>X q\/W.heap.size<=q) W wr)
    (λs66 _=>fn - (intOf s66).toNat)
   case atStart=>exact⟨0,zO,rfl,(by simpa[zX] using hJ),zR _,(Kept.refl _ _)⟩
   case round=>
    obtain⟨k,hk,rfl,zh,o8,eF⟩:=hrel;have iO:∀q,F q->wr.heap[q]?=w0.heap[q]?:=λq h=>(eF.block q (HB'.out q h) (by rintro (h1 | h1);exact(HX.out q h1).1 h;have:=HB'.out q h;omega)).trans (HW0.out q h);have S1:=bF XH.out eF (by rintro (h | h);exact(HX.out _ h).2.1 rfl;omega);have uD:wr.heap[bm]?=some (.cells #[.slice eA en ec,.slice pA pn pU,.slice fA fn fc,.map (some mb),.bool m.empty,.slice none an ac] 169):=(iO bm GH).trans HB0.out;clear c1 c2 m0 m1 m2 m3 m4 m5;have c1:=aO S1;obtain⟨m0,m1,m2,m3,m4,m5⟩:=uK uD;by_cases aN:k<fn
    ·have jV:decide (k<fn)=true:=by simp;omega
     have CE:aY wr F 1 aV (ku m 0) fA fn:=Ky.out.keep λq h=>⟨h,iO q h⟩;obtain⟨b,off,i,HI,jw,dO⟩:=CE.nat aN fc;have jU:i<m.places.length:=agu jr.out i (z13 HI.out);have kD:0<pn:=(by rw[Xk.out];omega);rw[hpA kD] at m1;obtain⟨q,hq⟩:∃q,m.places[i]?=some q:=⟨_,List.getElem?_eq_getElem jU⟩;obtain⟨v0,v1,v2,v3,v4,v5,v6,v7,v8,v9,v10,v11,xA,xn,xc,hrd,bH,hxn,-,GM⟩:=XG (UF.out kD) hq;obtain⟨z0,z1,z2,z3,z4,z5,z6,z7,z8,z9,nZ,og,zn,zf⟩:=YQ (w:=wr) (GM.keep (iO pb (hpb kD)));have aBX:∀V,(Instr.indexAt 167 (.slice (some ⟨pb,po,none⟩) pn pU) (.int .i64 (i:Int))).run Tryz.prog V= .ok (.pointer (some ⟨pb,po+i*14,none⟩)) V:=dN 167 195 14 Tryz.underlying167 (λw=>by kernel_rfl) rfl pn pU i (by rw[Xk.out];exact jU);have hJd:=H1.out _ wr wr.drew zh o8 ⟨rfl,rfl,rfl,zR _,λ_ _=>rfl⟩;have Di:zX cells m.places ((ku m 0).take (k+1))=zX cells m.places ((ku m 0).take k)++[(⟨i+1,q.num,q.leaf⟩,cells i)]:=adl cells HI.out hq;have hci:cells i=[v0,v1,v2,v3,v4,v5,v6,v7,v8,v9,v10,v11]:=(Jj.out i).trans hrd;rw[hci] at Di
     have mM:zX cells m.places ((ku m 0).take k)++[(⟨i+1,q.num,q.leaf⟩,[v0,v1,v2,v3,v4,v5,v6,v7,v8,v9,v10,v11])]<+:zX cells m.places (ku m 0):=by
      rw[<-Di];unfold zX
      conv=>rhs;rw[<-List.take_append_drop (k+1) (ku m 0),List.flatMap_append]
      exact List.prefix_append _ _
     obtain⟨f2,t2,a2,b2,jW,hR2⟩:=HY.out (n - 1) _ _ wr.drew hJd mM o8;have lQ:=jr.out.num i q hq;have hwi:IntKind.i64.wrap ((i:Int)+1)=(i:Int)+1:=(by have:=jr.out.len.1;rw[IntKind.wrap_i64];omega);simp only[EK,List.cons_append,List.nil_append,Int.natCast_add,Int.cast_ofNat_Int] at jW;have UM:=zH zh;have pW:=zH eF;have RF:=zH Di;have XB:=zH mM;obtain⟨num,rY⟩:=zF q.num;rw[rY] at zn jW;clear zh eF Di mM hJd CE hrd bH GM hci iO uD S1 rY lQ;have l9:Tryz.prog.follows .mixedOrders=true:=(by kernel_rfl);gi_wp2;have hHeld:wr.drew.cell? ⟨g1,0,none⟩=some (.pointer (some ⟨bm,0,none⟩))/\wr.drew.cell? ⟨bm,1,none⟩=some (.slice (some ⟨pb,po,none⟩) pn pU)/\wr.drew.cell? ⟨pb,po+i*14,none⟩=some (v0)/\wr.drew.cell? ⟨pb,po+i*14+1,none⟩=some (v1)/\wr.drew.cell? ⟨pb,po+i*14+2,none⟩=some (v2)/\wr.drew.cell? ⟨pb,po+i*14+3,none⟩=some (v3)/\wr.drew.cell? ⟨pb,po+i*14+4,none⟩=some (v4)/\wr.drew.cell? ⟨pb,po+i*14+5,none⟩=some (v5)/\wr.drew.cell? ⟨pb,po+i*14+6,none⟩=some (v6)/\wr.drew.cell? ⟨pb,po+i*14+7,none⟩=some (v7)/\wr.drew.cell? ⟨pb,po+i*14+8,none⟩=some (v8)/\wr.drew.cell? ⟨pb,po+i*14+9,none⟩=some (v9)/\wr.drew.cell? ⟨pb,po+i*14+10,none⟩=some (v10)/\wr.drew.cell? ⟨pb,po+i*14+11,none⟩=some (v11)/\wr.drew.cell? ⟨pb,po+i*14+12,none⟩=some (.int .i64 num):=⟨c1,m1,z0,z1,z2,z3,z4,z5,z6,z7,z8,z9,nZ,og,zn⟩;refine aP.start (λW=>W.cell? ⟨g1,0,none⟩=some (.pointer (some ⟨bm,0,none⟩))/\W.cell? ⟨bm,1,none⟩=some (.slice (some ⟨pb,po,none⟩) pn pU)/\W.cell? ⟨pb,po+i*14,none⟩=some (v0)/\W.cell? ⟨pb,po+i*14+1,none⟩=some (v1)/\W.cell? ⟨pb,po+i*14+2,none⟩=some (v2)/\W.cell? ⟨pb,po+i*14+3,none⟩=some (v3)/\W.cell? ⟨pb,po+i*14+4,none⟩=some (v4)/\W.cell? ⟨pb,po+i*14+5,none⟩=some (v5)/\W.cell? ⟨pb,po+i*14+6,none⟩=some (v6)/\W.cell? ⟨pb,po+i*14+7,none⟩=some (v7)/\W.cell? ⟨pb,po+i*14+8,none⟩=some (v8)/\W.cell? ⟨pb,po+i*14+9,none⟩=some (v9)/\W.cell? ⟨pb,po+i*14+10,none⟩=some (v10)/\W.cell? ⟨pb,po+i*14+11,none⟩=some (v11)/\W.cell? ⟨pb,po+i*14+12,none⟩=some (.int .i64 num)) 20 zK ?_
     refine aP.tk 0 20 [] hHeld ?_;refine aP.tk 1 2 [19,20] hHeld ?_;refine aP.tk 2 19 [20] hHeld ?_;refine aP.tk 3 4 [5,6,8,9,10,19,20] hHeld ?_;refine aP.tk 4 5 [6,8,9,10,19,20] hHeld ?_;refine aP.tk 5 6 [8,9,10,19,20] hHeld ?_;refine aP.tk 6 8 [9,10,19,20] hHeld ?_;refine aP.tk 7 8 [9,10,19,20] hHeld ?_;refine aP.tk 8 9 [10,19,20] hHeld ?_;refine aP.tk 9 10 [19,20] hHeld ?_;refine aP.tk 10 19 [20] hHeld ?_;refine aP.tk 11 12 [13,14,16,17,18,19,20] hHeld ?_;refine aP.tk 12 13 [14,16,17,18,19,20] hHeld ?_;refine aP.tk 13 14 [16,17,18,19,20] hHeld ?_;refine aP.tk 14 16 [17,18,19,20] hHeld ?_;refine aP.tk 15 16 [17,18,19,20] hHeld ?_;refine aP.tk 16 17 [18,19,20] hHeld ?_;refine aP.tk 17 18 [19,20] hHeld ?_;refine aP.tk 18 19 [20] hHeld ?_;refine aP.tk 19 20 [] hHeld ?_;refine aP.on 20 λK hK=>?_;go_simp;refine⟨(λh=>by cases h),(hR2.mono (λe B h=>Hy h)).mono ?_⟩;rintro e w3 ⟨v,rfl,Jd,Je⟩;refine iW hK ?_;clear hK K hR2 jW hHeld;(try simp only[Act.put,dG,dH,dI]);refine aP.on 21 λK hK=>?_;go_simp;refine iW hK ?_;clear hK K;refine aP.dn ?_;clear c1 m0 m1 m2 m3 m4 m5 z0 z1 z2 z3 z4 z5 z6 z7 z8 z9 nZ og zn zf jw;cases v
     ·have hx:=Je.out rfl
      have HXX:=zH hx;clear hx Jd Je;gi_wp2
      first | go_end0 | (refine bodyPost_ret (results_none rfl _ _ _) rfl ?_)
      exact⟨⟨_,rfl⟩,.inr ⟨_,XB.out,HXX.out⟩⟩
     ·obtain⟨hJ3,bW⟩:=Jd.out rfl
      have HJ3:=zH hJ3;have Dn:=zH bW;clear hJ3 bW Jd Je;gi_wp2;go_roundw
      case rel=>exact⟨k+1,zO,by go_num,by rw[RF.out];exact HJ3.out,zT o8 Dn.out.size,pW.out.trans (show Kept _ wr w3 from ⟨Dn.out.os,Dn.out.tape,Dn.out.output,Dn.out.size,Dn.out.block⟩)⟩
      case measure=>simp[intOf];omega
    ·obtain rfl:k=fn:=by omega
     have jV:decide (k<k)=false:=(by simp);have jo:(ku m 0).take k=ku m 0:=List.take_of_length_le (by rw[<-Ky.out.1];exact zR _);rw[jo] at zh;have UM:=zH zh;clear zh jo;gi_wp2
     go_end0
     exact⟨⟨_,rfl⟩,.inl ⟨_,rfl,UM.out⟩⟩
  ·obtain⟨s,rfl⟩:∃s1,s=s1+1:=⟨s - 1,zO⟩
   have kD:0<pn:=(by rw[Xk.out];omega);rw[hpA kD] at m1;have XI:s<m.places.length:=(by omega);have aEa:=jr.out.len.1;obtain⟨qs,hqs⟩:∃q,m.places[s]?=some q:=⟨_,List.getElem?_eq_getElem XI⟩;obtain⟨v0,v1,v2,v3,v4,v5,v6,v7,v8,v9,v10,v11,xA,xn,xc,-,-,aIm,aI,GM⟩:=XG (UF.out kD) hqs;obtain⟨-,-,-,-,-,-,-,-,-,-,-,-,-,zf⟩:=YQ (w:=W) (GM.keep (HW0.out pb (hpb kD)));have aBY:∀V,(Instr.indexAt 167 (.slice (some ⟨pb,po,none⟩) pn pU) (.int .i64 (s:Int))).run Tryz.prog V= .ok (.pointer (some ⟨pb,po+s*14,none⟩)) V:=dN 167 195 14 Tryz.underlying167 (λw=>by kernel_rfl) rfl pn pU s (by rw[Xk.out];exact XI)
   have Ky:Hid (aY w0 F 1 aV (ku m (s+1)) xA xn):=zH (by
    have hn:ku m (s+1)=qs.follow:=by unfold ku;rw[if_neg (Nat.succ_ne_zero s),Nat.add_sub_cancel,hqs]
    rw[hn];exact aI)
   have hws:IntKind.i64.wrap (s:Int)=(s:Int):=(by rw[IntKind.wrap_i64];omega);have hd:decide ((0:Int)<(s:Int)+1)=true:=decide_eq_true zO;have l9:Tryz.prog.follows .mixedOrders=true:=(by kernel_rfl);have Z8:W.cell? ⟨g2,0,none⟩=some (.int .i64 ((s:Int)+1)):=c2;clear c2 GM aI;have c2:=Z8;clear Z8;gi_wp2;have hHeld:W.drew.cell? ⟨g1,0,none⟩=some (.pointer (some ⟨bm,0,none⟩))/\W.drew.cell? ⟨bm,1,none⟩=some (.slice (some ⟨pb,po,none⟩) pn pU)/\W.drew.cell? ⟨g2,0,none⟩=some (.int .i64 ((s:Int)+1))/\W.drew.cell? ⟨pb,po+s*14+13,none⟩=some (.slice xA xn xc):=⟨c1,m1,c2,zf⟩;refine aP.start (λW=>W.cell? ⟨g1,0,none⟩=some (.pointer (some ⟨bm,0,none⟩))/\W.cell? ⟨bm,1,none⟩=some (.slice (some ⟨pb,po,none⟩) pn pU)/\W.cell? ⟨g2,0,none⟩=some (.int .i64 ((s:Int)+1))/\W.cell? ⟨pb,po+s*14+13,none⟩=some (.slice xA xn xc)) 9 zK ?_;refine aP.tk 0 9 [] hHeld ?_;refine aP.tk 1 9 [] hHeld ?_;refine aP.tk 2 9 [] hHeld ?_;refine aP.tk 3 9 [] hHeld ?_;refine aP.tk 4 9 [] hHeld ?_;refine aP.tk 5 9 [] hHeld ?_;refine aP.tk 6 9 [] hHeld ?_;refine aP.tk 7 9 [] hHeld ?_;refine aP.tk 8 9 [] hHeld ?_;refine aP.on 9 λK hK=>?_;go_simp;refine iW hK ?_;clear hK K hHeld;refine aP.dn ?_;have hJW:=H1.out _ W W.drew hJ (zR _) ⟨rfl,rfl,rfl,zR _,λ_ _=>rfl⟩;have hKW:Kept (λq=>X q\/W.heap.size<=q) W W.drew:=(Kept.refl _ _).drew;clear aBY zf hws;gi_wp2
   gi_loopw [66] (λs66 wr=>∃k:Nat,k<=xn/\s66= .int .i64 k/\J (zX cells m.places ((ku m (s+1)).take k)) wr/\W.heap.size<=wr.heap.size/\Kept (λq=>X q\/W.heap.size<=q) W wr)
    (λs66 _=>xn - (intOf s66).toNat)
   case atStart=>exact⟨0,zO,rfl,(by simpa[zX] using hJW),zR _,hKW⟩
   case round=>
    obtain⟨k,hk,rfl,zh,o8,eF⟩:=hrel;have iO:∀q,F q->wr.heap[q]?=w0.heap[q]?:=λq h=>(eF.block q (HB'.out q h) (by rintro (h1 | h1);exact(HX.out q h1).1 h;have:=HB'.out q h;omega)).trans (HW0.out q h);have S1:=bF XH.out eF (by rintro (h | h);exact(HX.out _ h).2.1 rfl;omega);have uD:wr.heap[bm]?=some (.cells #[.slice eA en ec,.slice pA pn pU,.slice fA fn fc,.map (some mb),.bool m.empty,.slice none an ac] 169):=(iO bm GH).trans HB0.out;clear c1 c2 m0 m1 m2 m3 m4 m5;have c1:=aO S1;obtain⟨m0,m1,m2,m3,m4,m5⟩:=uK uD;by_cases aN:k<xn
    ·have jV:decide (k<xn)=true:=by simp;omega
     have CE:aY wr F 1 aV (ku m (s+1)) xA xn:=Ky.out.keep λq h=>⟨h,iO q h⟩;obtain⟨b,off,i,HI,jw,dO⟩:=CE.nat aN xc;have jU:i<m.places.length:=agu jr.out i (z13 HI.out);have kD:0<pn:=(by rw[Xk.out];omega);rw[hpA kD] at m1;obtain⟨q,hq⟩:∃q,m.places[i]?=some q:=⟨_,List.getElem?_eq_getElem jU⟩;obtain⟨v0,v1,v2,v3,v4,v5,v6,v7,v8,v9,v10,v11,yA,yn,yc,hrd,bH,hxn,-,GM⟩:=XG (UF.out kD) hq;obtain⟨z0,z1,z2,z3,z4,z5,z6,z7,z8,z9,nZ,og,zn,zf⟩:=YQ (w:=wr) (GM.keep (iO pb (hpb kD)));have aBX:∀V,(Instr.indexAt 167 (.slice (some ⟨pb,po,none⟩) pn pU) (.int .i64 (i:Int))).run Tryz.prog V= .ok (.pointer (some ⟨pb,po+i*14,none⟩)) V:=dN 167 195 14 Tryz.underlying167 (λw=>by kernel_rfl) rfl pn pU i (by rw[Xk.out];exact jU);have hJd:=H1.out _ wr wr.drew zh o8 ⟨rfl,rfl,rfl,zR _,λ_ _=>rfl⟩;have Di:zX cells m.places ((ku m (s+1)).take (k+1))=zX cells m.places ((ku m (s+1)).take k)++[(⟨i+1,q.num,q.leaf⟩,cells i)]:=adl cells HI.out hq;have hci:cells i=[v0,v1,v2,v3,v4,v5,v6,v7,v8,v9,v10,v11]:=(Jj.out i).trans hrd;rw[hci] at Di
     have mM:zX cells m.places ((ku m (s+1)).take k)++[(⟨i+1,q.num,q.leaf⟩,[v0,v1,v2,v3,v4,v5,v6,v7,v8,v9,v10,v11])]<+:zX cells m.places (ku m (s+1)):=by
      rw[<-Di];unfold zX
      conv=>rhs;rw[<-List.take_append_drop (k+1) (ku m (s+1)),List.flatMap_append]
      exact List.prefix_append _ _
     obtain⟨f2,t2,a2,b2,jW,hR2⟩:=HY.out (n - 1) _ _ wr.drew hJd mM o8;have lQ:=jr.out.num i q hq;have hwi:IntKind.i64.wrap ((i:Int)+1)=(i:Int)+1:=(by have:=jr.out.len.1;rw[IntKind.wrap_i64];omega);simp only[EK,List.cons_append,List.nil_append,Int.natCast_add,Int.cast_ofNat_Int] at jW;have UM:=zH zh;have pW:=zH eF;have RF:=zH Di;have XB:=zH mM;obtain⟨num,rY⟩:=zF q.num;rw[rY] at zn jW;clear zh eF Di mM hJd CE hrd bH GM hci iO uD S1 rY lQ;have l9:Tryz.prog.follows .mixedOrders=true:=(by kernel_rfl);gi_wp2;have hHeld:wr.drew.cell? ⟨g1,0,none⟩=some (.pointer (some ⟨bm,0,none⟩))/\wr.drew.cell? ⟨bm,1,none⟩=some (.slice (some ⟨pb,po,none⟩) pn pU)/\wr.drew.cell? ⟨pb,po+i*14,none⟩=some (v0)/\wr.drew.cell? ⟨pb,po+i*14+1,none⟩=some (v1)/\wr.drew.cell? ⟨pb,po+i*14+2,none⟩=some (v2)/\wr.drew.cell? ⟨pb,po+i*14+3,none⟩=some (v3)/\wr.drew.cell? ⟨pb,po+i*14+4,none⟩=some (v4)/\wr.drew.cell? ⟨pb,po+i*14+5,none⟩=some (v5)/\wr.drew.cell? ⟨pb,po+i*14+6,none⟩=some (v6)/\wr.drew.cell? ⟨pb,po+i*14+7,none⟩=some (v7)/\wr.drew.cell? ⟨pb,po+i*14+8,none⟩=some (v8)/\wr.drew.cell? ⟨pb,po+i*14+9,none⟩=some (v9)/\wr.drew.cell? ⟨pb,po+i*14+10,none⟩=some (v10)/\wr.drew.cell? ⟨pb,po+i*14+11,none⟩=some (v11)/\wr.drew.cell? ⟨pb,po+i*14+12,none⟩=some (.int .i64 num):=⟨c1,m1,z0,z1,z2,z3,z4,z5,z6,z7,z8,z9,nZ,og,zn⟩;refine aP.start (λW=>W.cell? ⟨g1,0,none⟩=some (.pointer (some ⟨bm,0,none⟩))/\W.cell? ⟨bm,1,none⟩=some (.slice (some ⟨pb,po,none⟩) pn pU)/\W.cell? ⟨pb,po+i*14,none⟩=some (v0)/\W.cell? ⟨pb,po+i*14+1,none⟩=some (v1)/\W.cell? ⟨pb,po+i*14+2,none⟩=some (v2)/\W.cell? ⟨pb,po+i*14+3,none⟩=some (v3)/\W.cell? ⟨pb,po+i*14+4,none⟩=some (v4)/\W.cell? ⟨pb,po+i*14+5,none⟩=some (v5)/\W.cell? ⟨pb,po+i*14+6,none⟩=some (v6)/\W.cell? ⟨pb,po+i*14+7,none⟩=some (v7)/\W.cell? ⟨pb,po+i*14+8,none⟩=some (v8)/\W.cell? ⟨pb,po+i*14+9,none⟩=some (v9)/\W.cell? ⟨pb,po+i*14+10,none⟩=some (v10)/\W.cell? ⟨pb,po+i*14+11,none⟩=some (v11)/\W.cell? ⟨pb,po+i*14+12,none⟩=some (.int .i64 num)) 20 zK ?_
     refine aP.tk 0 20 [] hHeld ?_;refine aP.tk 1 2 [19,20] hHeld ?_;refine aP.tk 2 19 [20] hHeld ?_;refine aP.tk 3 4 [5,6,8,9,10,19,20] hHeld ?_;refine aP.tk 4 5 [6,8,9,10,19,20] hHeld ?_;refine aP.tk 5 6 [8,9,10,19,20] hHeld ?_;refine aP.tk 6 8 [9,10,19,20] hHeld ?_;refine aP.tk 7 8 [9,10,19,20] hHeld ?_;refine aP.tk 8 9 [10,19,20] hHeld ?_;refine aP.tk 9 10 [19,20] hHeld ?_;refine aP.tk 10 19 [20] hHeld ?_;refine aP.tk 11 12 [13,14,16,17,18,19,20] hHeld ?_;refine aP.tk 12 13 [14,16,17,18,19,20] hHeld ?_;refine aP.tk 13 14 [16,17,18,19,20] hHeld ?_;refine aP.tk 14 16 [17,18,19,20] hHeld ?_;refine aP.tk 15 16 [17,18,19,20] hHeld ?_;refine aP.tk 16 17 [18,19,20] hHeld ?_;refine aP.tk 17 18 [19,20] hHeld ?_;refine aP.tk 18 19 [20] hHeld ?_;refine aP.tk 19 20 [] hHeld ?_;refine aP.on 20 λK hK=>?_;go_simp;refine⟨(λh=>by cases h),(hR2.mono (λe B h=>Hy h)).mono ?_⟩;rintro e w3 ⟨v,rfl,Jd,Je⟩;refine iW hK ?_;clear hK K hR2 jW hHeld;(try simp only[Act.put,dG,dH,dI]);refine aP.on 21 λK hK=>?_;go_simp;refine iW hK ?_;clear hK K;refine aP.dn ?_;clear c1 m0 m1 m2 m3 m4 m5 z0 z1 z2 z3 z4 z5 z6 z7 z8 z9 nZ og zn zf jw;cases v
     ·have hx:=Je.out rfl
      have HXX:=zH hx;clear hx Jd Je;gi_wp2
      first | go_end0 | (refine bodyPost_ret (results_none rfl _ _ _) rfl ?_)
      exact⟨⟨_,rfl⟩,.inr ⟨_,XB.out,HXX.out⟩⟩
     ·obtain⟨hJ3,bW⟩:=Jd.out rfl
      have HJ3:=zH hJ3;have Dn:=zH bW;clear hJ3 bW Jd Je;gi_wp2;go_roundw
      case rel=>exact⟨k+1,zO,by go_num,by rw[RF.out];exact HJ3.out,zT o8 Dn.out.size,pW.out.trans (show Kept _ wr w3 from ⟨Dn.out.os,Dn.out.tape,Dn.out.output,Dn.out.size,Dn.out.block⟩)⟩
      case measure=>simp[intOf];omega
    ·obtain rfl:k=xn:=by omega
     have jV:decide (k<k)=false:=(by simp);have jo:(ku m (s+1)).take k=ku m (s+1):=List.take_of_length_le (by rw[<-Ky.out.1];exact zR _);rw[jo] at zh;have UM:=zH zh;clear zh jo;gi_wp2
     go_end0
     exact⟨⟨_,rfl⟩,.inl ⟨_,rfl,UM.out⟩⟩
theorem ann(m:eQ)(B bm g1 g2 s:Nat)(w0:World)(X:Nat->Prop)(hM:mO w0 B bm m)(fQ:mQ m)(hB:B<=w0.heap.size)(h1:w0.heap[g1]?=some (.cells #[.pointer (some ⟨bm,0,none⟩)] 93))(h2:w0.heap[g2]?=some (.cells #[.int .i64 s] 3))(hX:∀q,X q->¬q<B/\g1≠q/\g2≠q)(dW:m.all=[])(hs:s<=m.places.length):
 ∃rl:List SC,rl.map (·.1)=gK m s/\(∀x∈rl,au w0 (· <B) (aZ x.1.leaf) x.2)/\yF Tryz.prog 145 #[.pointer (some ⟨g1,0,none⟩),.pointer (some ⟨g2,0,none⟩)] EK X (· =rl) (· <+:rl) w0:=by
 exact aav m (· <B) bm g1 g2 s w0 X hM fQ (λq h=>Nat.lt_of_lt_of_le h hB) h1 h2 hX dW hs
end Go.Proofs.YtgmnnegfndpakaaGreatDoor
namespace Go.Proofs.YtgmnnegfndpakaaGreatDoor
open Go.RowKit
attribute [local go_sem] Oper.semAt_some
theorem ano{w:World}{b o:Nat}{v0 v1 v2 v3 v4 v5 v6 v7 v8 v9 v10 v11:Value}(h:cu w b o [v0,v1,v2,v3,v4,v5,v6,v7,v8,v9,v10,v11]):w.cell? ⟨b,o,none⟩=some v0/\w.cell? ⟨b,o+1,none⟩=some v1/\w.cell? ⟨b,o+2,none⟩=some v2/\w.cell? ⟨b,o+3,none⟩=some v3/\w.cell? ⟨b,o+4,none⟩=some v4/\w.cell? ⟨b,o+5,none⟩=some v5/\w.cell? ⟨b,o+6,none⟩=some v6/\w.cell? ⟨b,o+7,none⟩=some v7/\w.cell? ⟨b,o+8,none⟩=some v8/\w.cell? ⟨b,o+9,none⟩=some v9/\w.cell? ⟨b,o+10,none⟩=some v10/\w.cell? ⟨b,o+11,none⟩=some v11:=
 ⟨h 0 _ rfl,h 1 _ rfl,h 2 _ rfl,h 3 _ rfl,h 4 _ rfl,h 5 _ rfl,h 6 _ rfl,h 7 _ rfl,h 8 _ rfl,h 9 _ rfl,h 10 _ rfl,h 11 _ rfl⟩
theorem aax(m:eQ)(F:Nat->Prop)(bm g1 g2 s:Nat)(w0:World)(X:Nat->Prop)(hM:Gs w0 F bm m)(fQ:mQ m)(hB:∀q,F q->q<w0.heap.size)(h1:w0.heap[g1]?=some (.cells #[.pointer (some ⟨bm,0,none⟩)] 93))(h2:w0.heap[g2]?=some (.cells #[.int .i64 s] 3))(hX:∀q,X q->¬F q/\g1≠q/\g2≠q)(dW:m.all≠[])(hs:s<1000000):
 ∃rl:List SC,rl.map (·.1)=gK m s/\(∀x∈rl,au w0 F (aZ x.1.leaf) x.2)/\yF Tryz.prog 145 #[.pointer (some ⟨g1,0,none⟩),.pointer (some ⟨g2,0,none⟩)] EK X (· =rl) (· <+:rl) w0:=by
 obtain⟨eA,en,ec,pA,pn,pU,fA,fn,fc,mb,aA,an,ac,uD,GH,hmB,hE,hP,hF,BB,hA,EI,jR,Py,IU,han⟩:=hM;have tJ:=hA.1;rw[List.length_map] at tJ
 have kD:0<an:=by rw[tJ];exact List.length_pos_iff.2 dW
 obtain⟨ab,ao,haA,aBZ,har⟩:=hA.2 kD;subst haA
 have aIn:an<=6:=by rw[tJ];exact fQ.len.2.1
 obtain⟨cells,hce⟩:∃cells:Nat->List Value,∀i,cells i=rdC w0 ab (ao+i*12):=⟨_,λ_=>rfl⟩
 have bZ:gK m s=qH m.all s 0 1 s:=by unfold gK;rw[if_neg (by simpa using dW)]
 have lT:∀(i:Nat) (p:aJ),m.all[i]?=some p->∃v0 v1 v2 v3 v4 v5 v6 v7 v8 v9 v10 v11,cells i=[v0,v1,v2,v3,v4,v5,v6,v7,v8,v9,v10,v11]/\au w0 F (aZ p) [v0,v1,v2,v3,v4,v5,v6,v7,v8,v9,v10,v11]/\cu w0 ab (ao+i*12) [v0,v1,v2,v3,v4,v5,v6,v7,v8,v9,v10,v11]:=λi p hp=>by
  obtain⟨cs,GI,Wu⟩:=har.get i (aZ p) (by rw[z17,hp];rfl);obtain⟨k,mn,mx,el,ck,ns,nl,sp,A1,n1,c1,A2,n2,c2,pr,A,n,c,rfl,-⟩:=aW Wu;exact⟨_,_,_,_,_,_,_,_,_,_,_,_,by rw[hce];exact akN (r:=[]) (by simpa using GI) rfl,Wu,GI⟩
 refine⟨MC cells m.all s 0 1 s,by rw[agr,bZ],?_,?_⟩
 ·refine ags cells m.all s 0 1 s λj p d nn hj=>?_
  obtain⟨v0,v1,v2,v3,v4,v5,v6,v7,v8,v9,v10,v11,h1,h2,-⟩:=lT j p hj;rw[Nat.zero_add,h1];exact h2
 ·intro n l J Jx W hk h3 hY hJ
  obtain⟨RL,hRL⟩:=zF (MC cells m.all s 0 1 s);rw[hRL] at hY ⊢;have HY:=zH hY;have H1:=zH h3;have HX:=zH hX;have jr:=zH fQ;have Xc:=zH lT;have HAN:=zH tJ;have BR:=zH hRL;have HB':Hid (∀q,F q->q<W.heap.size):=zH λq h=>Nat.lt_of_lt_of_le (hB q h) hk.size;have GR:∀q,F q->W.heap[q]?=w0.heap[q]?:=λq h=>hk.block q (hB q h) (λe=>(hX q e).1 h);have S1:=bF h1 hk (λe=>(hX _ e).2.1 rfl);have S2:=bF h2 hk (λe=>(hX _ e).2.2 rfl);have mV:W.heap[bm]?=some (.cells #[.slice eA en ec,.slice pA pn pU,.slice fA fn fc,.map (some mb),.bool m.empty,.slice (some ⟨ab,ao,none⟩) an ac] 169):=(GR bm GH).trans uD;have lV:=aC S1;have qo:=aC S2;have c1:=aO S1;have c2:=aO S2;have m0:=uK mV;have HW0:=zH GR;have XH:=zH S1;have xC:=zH S2;have HB0:=zH uD;have lM:=zH hA;have dD:=akh ab ao an ac;clear hY h3 hX fQ hce tJ hk GR S1 S2 uD mV h1 h2 hE hP hF BB hA EI bZ dW har lT hRL;refine callsIn_of_wp Tryz.func145 rfl trivial ?_ rfl;simp only[Tryz.ntmps145,List.size_toArray,List.length_cons,z24,Nat.reduceAdd,Nat.reduceSub,Array.replicate_succ,Array.replicate_zero,List.push_toArray,List.append_toArray,List.nil_append,List.cons_append]
  have l9:Tryz.prog.follows .mixedOrders=true:=by kernel_rfl
  gi_wp2;have hHeld:W.drew.cell? ⟨g2,0,none⟩=some (.int .i64 s):=c2;refine aP.start (λW=>W.cell? ⟨g2,0,none⟩=some (.int .i64 s)) 2 zK ?_;refine aP.tk 0 2 [] hHeld ?_;refine aP.tk 1 2 [] hHeld ?_;refine aP.on 2 λK hK=>?_;go_simp;refine iW hK ?_;clear hK K hHeld;refine aP.dn ?_;have hJW:=H1.out _ W W.drew hJ (zR _) ⟨rfl,rfl,rfl,zR _,λ_ _=>rfl⟩;have hKW:Kept (λq=>X q\/W.heap.size<=q) W W.drew:=(Kept.refl _ _).drew;gi_wp2
  gi_loopw [4,5,22] (λs4 s5 s22 wr=>∃(i u q:Nat) (pre:List SC),i<=an/\s4= .int .i64 u/\s5= .int .i64 q/\s22= .int .i64 i/\u=4 ^ i/\q<1000000/\Hid (RL=pre++MC cells (m.all.drop i) s i u q)/\J pre wr/\W.heap.size<=wr.heap.size/\Kept (λq=>X q\/W.heap.size<=q) W wr)
   (λ_ _ s22 _=>an - (intOf s22).toNat)
  case atStart=>exact⟨0,1,s,[],zO,rfl,rfl,rfl,rfl,hs,zH (by rw[List.nil_append,List.drop_zero];exact BR.out.symm),hJW,zR _,hKW⟩
  case round=>
   obtain⟨i,u,q,pre,hi,rfl,rfl,rfl,hu,hq,HQ,zh,o8,eF⟩:=hrel;have iO:∀q,F q->wr.heap[q]?=w0.heap[q]?:=λq h=>(eF.block q (HB'.out q h) (by rintro (h1 | h1);exact(HX.out q h1).1 h;have:=HB'.out q h;omega)).trans (HW0.out q h);have S1:=bF XH.out eF (by rintro (h | h);exact(HX.out _ h).2.1 rfl;omega);have S2:=bF xC.out eF (by rintro (h | h);exact(HX.out _ h).2.2 rfl;omega);have uD:wr.heap[bm]?=some (.cells #[.slice eA en ec,.slice pA pn pU,.slice fA fn fc,.map (some mb),.bool m.empty,.slice (some ⟨ab,ao,none⟩) an ac] 169):=(iO bm GH).trans HB0.out;clear c1 c2 m0
   have hu6:u<=4096:=by
    rw[hu];have:i=0\/i=1\/i=2\/i=3\/i=4\/i=5\/i=6:=(by omega)
    rcases this with rfl | rfl | rfl | rfl | rfl | rfl | rfl<;>decide
   by_cases aN:i<an
   ·have jV:decide (i<an)=true:=by simp;omega
    obtain⟨px,hpx⟩:∃p,m.all[i]?=some p:=⟨_,List.getElem?_eq_getElem (by rw[<-HAN.out];exact aN)⟩;obtain⟨v0,v1,v2,v3,v4,v5,v6,v7,v8,v9,v10,v11,hci,bH,GM⟩:=Xc.out i px hpx;obtain⟨kx,gU,gz,gZ,ig,ik,iq,iw,iy,iC,iD,iE,iF,iG,iH,Ax,nx,cx,fJ,-,-,ahN,-⟩:=aW bH;simp only[List.cons.injEq,and_true] at fJ;obtain⟨rfl,rfl,rfl,rfl,rfl,rfl,rfl,rfl,rfl,rfl,rfl,rfl⟩:=fJ;obtain⟨z0,z1,z2,z3,z4,z5,z6,z7,z8,z9,nZ,og⟩:=ano (w:=wr) (GM.keep (iO ab aBZ));have dO:∀V,(Instr.indexAt 27 (.slice (some ⟨ab,ao,none⟩) an ac) (.int .i64 (i:Int))).run Tryz.prog V= .ok (.pointer (some ⟨ab,ao+i*12,none⟩)) V:=dN 27 29 12 Tryz.underlying27 (λw=>by kernel_rfl) rfl an ac i aN;obtain⟨wa,BK,SA,Vg,bJ⟩:=af wr (.cells #[.int .i64 kx,.int .i64 gU,.int .i64 gz,.int .i64 gZ,.int .i64 ig,.string ik,.string iq,.string iw,.slice iy iC iD,.slice iE iF iG,.int .i64 iH,.slice Ax nx cx] 29);have x0:=aj SA;have c2:=aO (ae S2 bJ);have bZ:=HQ.out;rw[anm cells hpx,ahN,hci] at bZ;have ank:(q:Int).tmod 4=((q % 4:Nat):Int):=(by rw[Int.tmod_eq_emod_of_nonneg zO];omega);have ahO:(q:Int).tdiv 4=((q / 4:Nat):Int):=(by rw[Int.tdiv_eq_ediv_of_nonneg zO];omega);obtain⟨g,hg⟩:=zF (q % 4);rw[hg] at ank bZ;have CY:g<4:=(by omega);have vV:IntKind.i64.wrap (4*(u:Int))=4*(u:Int):=(by rw[IntKind.wrap_i64];omega);have atZ:wrap64 (4*(u:Int))=((4*u:Nat):Int):=(by rw[CU zO zO];push_cast;rfl);have hu1:4*u=4 ^ (i+1):=(by rw[hu,Nat.pow_succ,Nat.mul_comm]);have hq4:q / 4<1000000:=(by omega);have HU1:=zH hu1;have hJa:=H1.out _ wr wa zh o8 bJ;have D5:Kept (λq=>X q\/W.heap.size<=q) W wa:=eF.trans (Kept.of_below bJ)
    have anp:W.heap.size<=wa.heap.size:=zT o8 bJ.size;have HJA:=zH hJa;have Xj:=zH D5;clear GM bH hci uD S1 S2 SA hg hu hu1 iO hJa D5 zh eF hpx;by_cases h1:(g:Int)<gz
    ·rw[if_pos h1] at bZ
     have gJ:decide ((g:Int)<gz)=true:=decide_eq_true h1;have hws:IntKind.i64.wrap ((s:Int)+(u:Int))=(s:Int)+(u:Int):=(by rw[IntKind.wrap_i64];omega);have hwi:IntKind.i64.wrap ((i:Int)+1)=(i:Int)+1:=(by rw[IntKind.wrap_i64];omega)
     have mM:pre++[(⟨s+u,i+1,px⟩,[.int .i64 kx,.int .i64 gU,.int .i64 gz,.int .i64 gZ,.int .i64 ig,.string ik,.string iq,.string iw,.slice iy iC iD,.slice iE iF iG,.int .i64 iH,.slice Ax nx cx])]<+:RL:=by
      rw[bZ,<-List.append_assoc];exact List.prefix_append _ _
     rw[<-List.append_assoc] at bZ;obtain⟨f2,t2,a2,b2,jW,hR2⟩:=HY.out (n - 1) _ _ wa HJA.out mM anp;simp only[EK,List.cons_append,List.nil_append,Int.natCast_add,Int.cast_ofNat_Int] at jW;have sV:=zH bZ;have XB:=zH mM;clear bZ mM;gi_wp2;refine⟨(λh=>by cases h),(hR2.mono (λe B h=>Hy h)).mono ?_⟩;rintro e w3 ⟨v,rfl,Jd,Je⟩;clear hR2 jW x0 c2;cases v
     ·have hx:=Je.out rfl
      have HXX:=zH hx;clear hx Jd Je;gi_wp2
      first | go_end0 | (refine bodyPost_ret (results_none rfl _ _ _) rfl ?_)
      exact⟨⟨_,rfl⟩,.inr ⟨_,XB.out,HXX.out⟩⟩
     ·obtain⟨hJ3,bW⟩:=Jd.out rfl
      have HJ3:=zH hJ3;have Dn:=zH bW;clear hJ3 bW Jd Je;gi_wp2;go_roundw
      case rel=>exact⟨i+1,4*u,q / 4,_,zO,by first | rfl | (simp[atZ];done) | go_num,by first | rfl | (simp[ahO];done) | go_num,by go_num,HU1.out,hq4,sV,HJ3.out,zT anp Dn.out.size,Xj.out.trans Dn.out⟩
      case measure=>simp[intOf];omega
    ·rw[if_neg h1,List.nil_append] at bZ
     have gJ:decide ((g:Int)<gz)=false:=decide_eq_false h1;have sV:=zH bZ;clear bZ
     gi_wp2_with (refine wpListIn_skip zL (by first | rfl | kernel_rfl) ?_)
     go_roundw
     case rel=>exact⟨i+1,4*u,q / 4,pre,zO,by first | rfl | (simp[atZ];done) | go_num,by first | rfl | (simp[ahO];done) | go_num,by go_num,HU1.out,hq4,sV,HJA.out,anp,Xj.out⟩
     case measure=>simp[intOf];omega
   ·have jV:decide (i<an)=false:=by simp;omega
    have bZ:=HQ.out;rw[z14 (by rw[<-HAN.out];omega),MC,List.append_nil] at bZ;have sV:=zH bZ;have UM:=zH zh;clear bZ zh uD S1 S2;gi_wp2
    first | go_end0 | (refine bodyPost_ret (results_none rfl _ _ _) rfl ?_)
    exact⟨⟨_,rfl⟩,.inl ⟨_,rfl,by rw[sV.out];exact UM.out⟩⟩
theorem anq(m:eQ)(B bm g1 g2 s:Nat)(w0:World)(X:Nat->Prop)(hM:mO w0 B bm m)(fQ:mQ m)(hB:B<=w0.heap.size)(h1:w0.heap[g1]?=some (.cells #[.pointer (some ⟨bm,0,none⟩)] 93))(h2:w0.heap[g2]?=some (.cells #[.int .i64 s] 3))(hX:∀q,X q->¬q<B/\g1≠q/\g2≠q)(dW:m.all≠[])(hs:s<1000000):
 ∃rl:List SC,rl.map (·.1)=gK m s/\(∀x∈rl,au w0 (· <B) (aZ x.1.leaf) x.2)/\yF Tryz.prog 145 #[.pointer (some ⟨g1,0,none⟩),.pointer (some ⟨g2,0,none⟩)] EK X (· =rl) (· <+:rl) w0:=by
 exact aax m (· <B) bm g1 g2 s w0 X hM fQ (λq h=>Nat.lt_of_lt_of_le h hB) h1 h2 hX dW hs
end Go.Proofs.YtgmnnegfndpakaaGreatDoor
