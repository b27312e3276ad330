import Derived.Test.YtgmnnegfndpakaaGreatDoorT05
set_option maxHeartbeats 20000000
set_option maxRecDepth 100000
namespace Go.Proofs.YtgmnnegfndpakaaGreatDoor
open Go.RowKit
theorem au.aT5{w:World}{B B':Nat}{ds:List D}{cs:List Value}(h:au w (· <B) ds cs)(hb:B<=B'):au w (· <B') ds cs:=au.keep (λb h=>⟨Nat.lt_of_lt_of_le h hb,rfl⟩) _ _ h
theorem aNs{p:aJ}{elems:List (List Nm)}(w:List Nm):(TG p elems w).1.Pairwise (· < ·):=by
 unfold TG
 split
 ·exact .nil
 split
 ·exact .nil
 split
 ·exact .nil
 split
 ·exact .nil
 exact qW _
theorem aX6{elems:List (List Nm)}{n:Nm}{A B:Nat}{l:List Nat}{L:List (Nat×aJ)}{i:Nat}{y:Nat×aJ}(h:L[i]?=some y):aFi elems n A B l (L.drop i)=(if y.1=A\/y.1=B then aFh elems n y l else 0)+aFi elems n A B l (L.drop (i+1)):=by
 obtain⟨hi,rfl⟩:=z4.1 h;rw[nZ hi,aFi]
theorem aX7{elems:List (List Nm)}{n:Nm}{x:Nat×aJ}{l:List Nat}{j g:Nat}(h:l[j]?=some g):aFh elems n x (l.drop j)=(if (decide (g=x.1)&&Gf elems x.2 n)=true then 1 else 0)+aFh elems n x (l.drop (j+1)):=by
 obtain⟨hi,rfl⟩:=z4.1 h;unfold aFh;rw[nZ hi,List.filter_cons]
 split
 ·rw[z9];omega
 rw[Nat.zero_add]
theorem axm{p:Prop} (h:p:=by
 obtain⟨f,j,hj,rfl,rfl,hf,HJ,hbj⟩:=hrel;by_cases aON:j<ln
 ·have hdj:decide ((j:Int)<(ln:Int))=true:=(by simp;omega);obtain⟨bx,ox,x',HX',x0,hxc,hxi⟩:=(HR9.out.keep (F':=λ_=>True) λb hb=>⟨trivial,hbj.block b hb.2⟩).lf aN c9;obtain rfl:x'=x:=zI (HX'.out.symm.trans HX.out);obtain⟨-,eG⟩:=jr.out.2 i x' y HX.out HY.out;obtain⟨k3,mn3,J3,el3,ck3,ns3,nl3,sp3,B1,m1,d1,B2,m2,d2,pr3,B,m,d,fJ,-⟩:=aW eG;rw[fJ] at hxc eG;obtain⟨z0,z1,z2,z3,z4,z5,z6,z7,z8,z9,nZ,og⟩:=hxc.twelve;obtain⟨gb,go,g,HG,aQg,hgi⟩:=(HLR.out.keepW (dQ.seq hbj)).nat aON lc;obtain⟨-,-,-,y0,y1⟩:=aVB (ae WU.out (aYu.seq hbj));obtain⟨b1,auB⟩:=zF (Gf elems y.2 (na,nb))
  have at7:Hid (∀W,Bw wr W->Rt 36 #[.agg (o5 k3 mn3 J3 el3 ck3 ns3 nl3 sp3 B1 m1 d1 B2 m2 d2 pr3 B m d),.slice eA en ec,.agg #[.string na,.string nb]] W (.bool b1)):=zH λW hW=>by
   rw[<-auB];exact aEE elems y.2 _ eA en ec na nb W ((eG.below ((hbj.seq hW).mono aiA.size)).aT5 (aiA.seq (hbj.seq hW)).size) (HE.out.keepW (aiA.seq (hbj.seq hW))) (HLF.out y (List.mem_iff_getElem?.2 ⟨_,HY.out⟩))
  have aJ9:=zH auB;have HBJ:=zH hbj;have s0:=Since.cell z0;have s1:=Since.cell z1;have s2:=Since.cell z2;have s3:=Since.cell z3;have s4:=Since.cell z4;have s5:=Since.cell z5;have s6:=Since.cell z6;have s7:=Since.cell z7;have s8:=Since.cell z8;have s9:=Since.cell z9;have s10:=Since.cell nZ;have UQ:=Since.cell og;have s12:=Since.cell x0;have QF:=Since.cell aQg;have s14:=Since.cell y0;have s15:=Since.cell y1;clear auB hbj eG hxc fJ;by_cases jT:g=x'.1
  ·have aOO:decide ((g:Int)=(x'.1:Int))=true:=(by simp;omega);have aL4:((g:Int)==(x'.1:Int))=true:=(by simp;omega);have wS:=HJ.out;rw[aX7 HG.out,aJ9.out,decide_eq_true (show g=y.1 by rw[<-HE9.out];exact jT)] at wS;have XZ:=zH wS;clear wS;go_wp2_with fail;refine yh zK zK ?_
   repeat (go_big_quiet_step (first | (go_at_call 36;exact Eo (at7.out _ (Since.below _)))))
   refine wpQuiet_nil ?_;intro wq hq;have Xo:=Ap hq;cases b1
   ·have HX2:Hid (f+aFh elems (na,nb) y (l.drop (j+1))+aFi elems (na,nb) ca cb l ((aaj p 0).drop (i+1))=2):=zH (by have h:=XZ.out;rw[if_neg zD,Nat.zero_add] at h;exact h);go_wp2_with fail;go_roundw
    case rel=>exact⟨f,j+1,zO,rfl,by go_num,hf,HX2,HBJ.out.seq Xo⟩
    simp[intOf];omega
   have FI:f+1<=2/\f+1+aFh elems (na,nb) y (l.drop (j+1))+aFi elems (na,nb) ca cb l ((aaj p 0).drop (i+1))=2:=(by have h:=XZ.out;rw[if_pos zD] at h;omega);have HX2:=zH FI.2;have hf1:=FI.1;clear FI;go_wp2_with fail;go_roundw
   case rel=>exact⟨f+1,j+1,zO,by go_num,by go_num,hf1,HX2,HBJ.out.seq Xo⟩
   simp[intOf];omega
  have aOO:decide ((g:Int)=(x'.1:Int))=false:=(by simp;omega);have aL4:((g:Int)==(x'.1:Int))=false:=(by simp;omega);have HX2:Hid (f+aFh elems (na,nb) y (l.drop (j+1))+aFi elems (na,nb) ca cb l ((aaj p 0).drop (i+1))=2):=zH (by have h:=HJ.out;rw[aX7 HG.out,decide_eq_false (show ¬g=y.1 by rw[<-HE9.out];exact jT),Bool.false_and,if_neg zD,Nat.zero_add] at h;exact h);go_wp2_with fail;refine yh zK zK ?_
  repeat (go_big_quiet_step (first | (go_at_call 36;exact Eo (at7.out _ (Since.below _)))))
  refine wpQuiet_nil ?_;intro wq hq;have Xo:=Ap hq;go_wp2_with fail;go_roundw
  case rel=>exact⟨f,j+1,zO,rfl,by go_num,hf,HX2,HBJ.out.seq Xo⟩
  simp[intOf];omega
 obtain rfl:j=ln:=(by omega);have hdj:decide ((j:Int)<(j:Int))=false:=(by simp);have HX2:Hid (f+aFi elems (na,nb) ca cb l ((aaj p 0).drop (i+1))=2):=zH (by have h:=HJ.out;rw[<-Xh.out,List.drop_length] at h;exact h);go_wp2_with fail;go_roundw
 case rel=>exact⟨f,i+1,zO,rfl,by go_num,hf,HX2,hbj⟩
 simp[intOf];omega):p:=h
theorem aTR(p:aJ)(elems:List (List Nm))(cs:List Value)(w:World)(eA:Option Addr)(en ec:Nat)(hr:au w (· <w.heap.size) (aZ p) cs)(he:bM w (· <w.heap.size) 1 (elems.map nU) eA en)(jR:en<6000000000000)(hT:Tab w):
 Rt 8 #[.agg cs.toArray,.slice eA en ec] w (.bool true):=by
 have a2H:Hid (bT (elems.length:Int) true p=true->dh p<100000->∀W,Bw w W->Cl 35 #[.agg cs.toArray,.int .i64 0] W (ayL W w.heap.size (aaj p 0) (0+dh p))):=zH λh1 h2 W hW=>aKV _ p true h1 cs W w.heap.size 0 hW.size (hr.below hW) zO;obtain⟨k,mn,mx,el,ck,ns,nl,sp,A1,n1,c1,A2,n2,c2,pr,A0,n0,c0,rfl,-⟩:=aW hr;obtain⟨w1,bI,S1,nC,ai⟩:=af w (.cells #[.int .i64 k,.int .i64 mn,.int .i64 mx,.int .i64 el,.int .i64 ck,.string ns,.string nl,.string sp,.slice A1 n1 c1,.slice A2 n2 c2,.int .i64 pr,.slice A0 n0 c0] 29);have q0:=aj S1;have aNZ:Hid (∀W,Bw w W->Cl 11 #[.agg (o5 k mn mx el ck ns nl sp A1 n1 c1 A2 n2 c2 pr A0 n0 c0),.slice eA en ec] W λe w'=>ayD e/\Bw W w'):=zH λW hb=>ajb p elems _ W _ eA en ec (hr.below hb) (he.keepW hb) jR;have aX8:Hid (∀W,Bw w W->Cl 32 #[.agg (o5 k mn mx el ck ns nl sp A1 n1 c1 A2 n2 c2 pr A0 n0 c0)] W λe w'=>ayD e/\Bw W w'):=zH λW hb=>aFS p _ W _ (hr.below hb);have aTQ:Hid (∀W,Bw w W->Rt 33 #[] W (.bool true)):=zH λW hb=>aXZ W (hT.below hb);obtain⟨⟨is,ca,cb,wd,⟨na,nb⟩,er⟩,hR⟩:∃R,aaV p elems=R:=⟨_,rfl⟩
 have aWS:Hid (∀W,Bw w W->Cl 34 #[.agg (o5 k mn mx el ck ns nl sp A1 n1 c1 A2 n2 c2 pr A0 n0 c0),.slice eA en ec] W λe w'=>∃A n c,e= .returned (.tuple #[.bool is,.agg #[.int .i64 (ca:Int),.int .i64 (cb:Int),.slice A n c,.string na,.string nb],.int .i64 er])/\aY w' (· <w'.heap.size) 2 dK wd A n/\n<1000000/\Bw W w'):=zH λW hb=>(aVC p elems _ W eA en ec (hr.keepW hb) (he.keepW hb) jR (hT.below hb)).mono λe w' ⟨A,n,c,h1,h2,_,h3,h4⟩=>by
  rw[hR] at h1 h2;exact⟨A,n,c,h1,h2.imp λ_ h=>h.2,h3,h4⟩
 have HZ:Hid (er≠0\/is=true->ca=0/\cb=0/\wd=[]/\(er≠0->is=false)):=zH (by have:=aS1 (p:=p) (elems:=elems);rw[hR] at this;exact this);have vJ:Hid (er=0->is=false->(DJ p elems).2=0/\(TG p elems wd).2.2=0/\∃r,ack elems (aaj p 0) (TG p elems wd).1 (na,nb)=ca::cb::r):=zH (by have:=aPn (p:=p) (elems:=elems);rw[hR] at this;exact this);have jG:=zH hr;have HE:=zH he;have HT:=zH hT;have aQ:=zH S1;have nK:=zH ai;clear hr he hT S1 ai hR;go_enter Tryz.func8,Tryz.ntmps8;go_upto_region 1 with fail
 go_cut [22] (λs22 W=>∃g:Bool,s22= .bool g/\Bw w1 W)
 case first=>
  go_wp2_with fail;refine (aNZ.out _ nK.out).mono ?_;rintro e w2 ⟨⟨b,rfl⟩,ag⟩;cases b
  rotate_left 1
  ·go_wp2_with fail;go_meet;exact⟨true,rfl,ag⟩
  clear q0;have q0:=aj (ae aQ.out ag);go_wp2_with fail;refine (aX8.out _ (nK.out.seq ag)).mono ?_;rintro e w3 ⟨⟨b,rfl⟩,az⟩;go_wp2_with fail;go_meet;exact⟨b,rfl,ag.seq az⟩
 obtain⟨wb,hwb⟩:=zE wc;subst hwb;obtain⟨g,rfl,CZ⟩:=hcut;have aH:=nK.out.seq CZ;clear q0;have q0:=aj (ae aQ.out CZ);cases g
 rotate_left 1
 ·go_wp2_with fail;refine (aTQ.out _ aH).mono ?_;rintro e w3 ⟨rfl,az⟩;go_wp2_with fail;go_ret;exact⟨rfl,aH.seq az⟩
 go_wp2_with fail;refine (aWS.out _ aH).mono ?_;rintro e w3 ⟨A,n,c,rfl,aI,hn,az⟩;obtain⟨w4,vV,S4,IX,aX⟩:=af w3 (.cells #[.int .i64 (ca:Int),.int .i64 (cb:Int),.slice A n c,.string na,.string nb] 63);have o6:=az.seq aX;clear q0;have q0:=aj (ae aQ.out (CZ.seq o6));obtain⟨k0,k1,k2,k3',k4⟩:=aVB S4;have hn0:n=wd.length:=aI.1;have lM:=zH (aI.keepW aX);have WU:=zH S4;clear aI S4;by_cases hc:er=0/\is=false
 rotate_left 1
 ·obtain⟨z1,z2,z3,z4⟩:=HZ.out (by cases is;exact .inl λh=>hc ⟨h,rfl⟩;exact .inr rfl);have yB:n=0:=(by rw[hn0,z3];rfl)
  have hd:(er !=0)=!is:=by
   cases is
   ·simp only[bne_iff_ne,Bool.not_false];exact λh=>hc ⟨h,rfl⟩
   have h0:er=0:=Decidable.byContradiction λh=>(by have:=z4 h;cases this);rw[h0];rfl
  have jc:(er==0)=is:=by
   have:(er==0)=!(er !=0):=(by simp[bne]);rw[this,hd,Bool.not_not]
  have Cb:((ca:Int)==0)=true:=(by rw[z1];rfl);have FI:((cb:Int)==0)=true:=(by rw[z2];rfl);clear vJ z1 z2 z3 z4 hn0 hc lM;subst yB;cases is
  all_goals
   go_wp2_with fail;refine (aTQ.out _ (aH.seq o6)).mono ?_;rintro e w5 ⟨rfl,bg⟩;go_wp2_with fail;go_ret;exact⟨rfl,(aH.seq o6).seq bg⟩
 obtain⟨rfl,rfl⟩:=hc;obtain⟨kV,dD,r,a2G⟩:=vJ.out rfl rfl;obtain⟨aA6,-⟩:=aza kV;obtain⟨-,-,xQ,-,aKy,-⟩:=J5 aA6;have Dc:dh p<100000:=(by have:=af6 xQ;omega);have SS:∀x∈aaj p 0,xE elems x.2:=λx hx=>aLi (afK _ p true 0 aKy x hx).1.2.2;obtain⟨nz,hf2⟩:=aS7 (ajJ _ p true 0 aKy) (aNs wd) a2G;have aWx:=aVV aA6 wd;have Ee:=zH (a2H.out aKy Dc);obtain⟨⟨l,nb',ne⟩,hNX⟩:∃r,TG p elems wd=r:=⟨_,rfl⟩;rw[hNX] at dD a2G hf2 aWx;dsimp only at dD a2G hf2 aWx;subst dD
 have aP5:Hid (Cl 30 #[.agg (o5 k mn mx el ck ns nl sp A1 n1 c1 A2 n2 c2 pr A0 n0 c0),.slice eA en ec,.slice A n c] w4 λe w'=>∃v,e= .returned (.tuple #[v,.bool nb',.int .i64 0])/\ax w' w4.heap.size 3 1 aV l v/\Bw w4 w'):=zH (by
  have:=next_any p elems wd _ w4 eA en ec A n c (jG.out.keepW (aH.seq o6)) (HE.out.keepW (aH.seq o6)) jR lM.out zO (HT.out.below (aH.seq o6));rw[hNX] at this
  exact this)
 have hll:=agl p 0;have jT:decide ((cb:Int)<=(ca:Int))=false:=(by simp;omega);have HF2:=zH hf2;have HLF:=zH SS;have HLL:=zH hll;clear vJ HZ kV a2G aA6 xQ aKy hf2 SS hll hNX a2H hn0;go_wp2_with fail;refine aP5.out.mono ?_;rintro e w5 ⟨v,rfl,RZ,bg⟩;obtain⟨lA,lc,rfl⟩:=RZ.form;have Ob:=o6.seq bg;clear q0 k0 k1 k2 k3' k4;have q0:=aj (ae aQ.out (CZ.seq Ob));obtain⟨k0,k1,k2,k3',k4⟩:=aVB (ae WU.out bg);obtain⟨ln,Zz⟩:=zF l.length;have Xh:=zH Zz;have HLR:=zH RZ.a0U.2;rw[Zz] at HLR aWx ⊢;clear RZ Zz;go_wp2_with fail;refine (Ee.out w5 (aH.seq Ob)).mono ?_;rintro e w6 ⟨v,xs,rfl,ho,fQ,dQ⟩;obtain⟨A9,c9,hv9,hr9,-,-⟩:=ho.row aEl zD;subst hv9;have HR9:=zH hr9;have jr:=zH fQ;have hxn:xs.length<=100000:=(by rw[fQ.1];have:=HLL.out;omega);obtain⟨nx,xw⟩:=zF xs.length;have Ky:=zH xw;rw[xw] at HR9 hxn ⊢;have aYu:=bg.seq dQ;have aiA:Bw w w6:=aH.seq (Ob.seq dQ);have Du:Hid (nx=(aaj p 0).length):=zH (by rw[<-xw,fQ.1]);clear ho fQ hr9 q0 k0 k1 k2 k3' k4 xw;go_wp2_with fail
 go_loopw [13,14] (λQF s14 W=>∃(f i:Nat),i<=nx/\QF= .int .i64 (f:Int)/\s14= .int .i64 (i:Int)/\f<=2/\Hid (f+aFi elems (na,nb) ca cb l ((aaj p 0).drop i)=2)/\Bw w6 W) (λ_ s14 _=>nx - (intOf s14).toNat)
 case atStart=>exact⟨0,0,zO,rfl,rfl,zO,zH (by rw[List.drop_zero,Nat.zero_add];exact HF2.out),Below.refl _ _⟩
 obtain⟨f,i,hi,rfl,rfl,hf,HF,dU⟩:=hrel;have HBR:=zH dU;by_cases aN:i<nx
 ·have hd:decide ((i:Int)<(nx:Int))=true:=(by simp;omega);obtain⟨y,hy⟩:∃y,(aaj p 0)[i]?=some y:=⟨_,z6 (by rw[<-Du.out];exact aN)⟩;have HY:=zH hy;have HFD:=zH (aX6 (elems:=elems) (n:=(na,nb)) (A:=ca) (B:=cb) (l:=l) hy);have wU:Bw w4 wr:=aYu.seq dU;obtain⟨bx,ox,x,HX,x0,-,hxi⟩:=(HR9.out.keep (F':=λ_=>True) λb hb=>⟨trivial,dU.block b hb.2⟩).lf aN c9;obtain⟨e9,-⟩:=jr.out.2 i x y HX.out HY.out;have HE9:=zH e9;obtain⟨k0,k1,-,-,-⟩:=aVB (ae WU.out wU);have s0:=Since.cell x0;have s1:=Since.cell k0;have s2:=Since.cell k1;clear hy dU e9;by_cases hya:x.1=ca\/x.1=cb
  ·have HFS:Hid (f+aFh elems (na,nb) y l+aFi elems (na,nb) ca cb l ((aaj p 0).drop (i+1))=2):=zH (by rw[<-HF.out,HFD.out,if_pos (by rw[<-HE9.out];exact hya),Nat.add_assoc]);obtain⟨u,hu⟩:=zF (decide (x.1=ca));cases u
   ·have h1:x.1≠ca:=of_decide_eq_false hu;have h2:x.1=cb:=hya.resolve_left h1;have Pn:((x.1:Int)==(ca:Int))=false:=(by simp;omega);have gX:((x.1:Int)==(cb:Int))=true:=(by simp;omega);have a2S:((x.1:Int) !=(ca:Int))=true:=(by simp;omega);have aHQ:((x.1:Int) !=(cb:Int))=false:=(by simp;omega);clear h1 h2 hu hya;go_wp2_with fail;refine yh zK zK ?_
    repeat (go_big_quiet_step (first | fail))
    refine wpQuiet_nil ?_;intro w14 hq;have aCY:Hid (Bw w6 w14):=zH (HBR.out.seq (Ap hq));clear hq s0 s1 s2 x0 k0 k1 hxi;go_wp2_with fail
    go_loopw [13,15] (λQF s15 W=>∃(f j:Nat),j<=ln/\QF= .int .i64 (f:Int)/\s15= .int .i64 (j:Int)/\f<=2/\Hid (f+aFh elems (na,nb) y (l.drop j)+aFi elems (na,nb) ca cb l ((aaj p 0).drop (i+1))=2)/\Bw w6 W) (λ_ s15 _=>ln - (intOf s15).toNat)
    case atStart=>exact⟨f,0,zO,rfl,rfl,hf,zH (by rw[List.drop_zero];exact HFS.out),aCY.out⟩
    exact axm
   have h1:x.1=ca:=of_decide_eq_true hu;have Pn:((x.1:Int)==(ca:Int))=true:=(by simp;omega);have a2S:((x.1:Int) !=(ca:Int))=false:=(by simp;omega);clear h1 hu hya;go_wp2_with fail;refine yh zK zK ?_
   repeat (go_big_quiet_step (first | fail))
   refine wpQuiet_nil ?_;intro w14 hq;have aCY:Hid (Bw w6 w14):=zH (HBR.out.seq (Ap hq));clear hq s0 s1 s2 x0 k0 k1 hxi;go_wp2_with fail
   go_loopw [13,15] (λQF s15 W=>∃(f j:Nat),j<=ln/\QF= .int .i64 (f:Int)/\s15= .int .i64 (j:Int)/\f<=2/\Hid (f+aFh elems (na,nb) y (l.drop j)+aFi elems (na,nb) ca cb l ((aaj p 0).drop (i+1))=2)/\Bw w6 W) (λ_ s15 _=>ln - (intOf s15).toNat)
   case atStart=>exact⟨f,0,zO,rfl,rfl,hf,zH (by rw[List.drop_zero];exact HFS.out),aCY.out⟩
   exact axm
  have a2R:x.1≠ca/\x.1≠cb:=⟨λh=>hya (.inl h),λh=>hya (.inr h)⟩;have Pn:((x.1:Int)==(ca:Int))=false:=(by simp;omega);have gX:((x.1:Int)==(cb:Int))=false:=(by simp;omega);have a2S:((x.1:Int) !=(ca:Int))=true:=(by simp;omega);have aHQ:((x.1:Int) !=(cb:Int))=true:=(by simp;omega);have HFS:Hid (f+aFi elems (na,nb) ca cb l ((aaj p 0).drop (i+1))=2):=zH (by rw[<-HF.out,HFD.out,if_neg (by rw[<-HE9.out];exact hya),Nat.zero_add]);go_wp2_with fail;refine yh zK zK ?_
  repeat (go_big_quiet_step (first | fail))
  refine wpQuiet_nil ?_;intro wq hq;have Xo:=Ap hq;go_wp2_with fail;go_roundw
  case rel=>exact⟨f,i+1,zO,rfl,by go_num,hf,HFS,HBR.out.seq Xo⟩
  simp[intOf];omega
 obtain rfl:i=nx:=(by omega);have hd:decide ((i:Int)<(i:Int))=false:=(by simp)
 have aT0:f=2:=by
  have h:=HF.out;rw[Du.out,List.drop_length] at h;exact h
 have hff:((f:Int)==2)=true:=(by rw[aT0];rfl);clear aT0;go_wp2_with fail;refine (aTQ.out _ (aiA.seq dU)).mono ?_;rintro e w7 ⟨rfl,eP⟩;go_wp2_with fail;go_ret;exact⟨rfl,(aiA.seq dU).seq eP⟩
