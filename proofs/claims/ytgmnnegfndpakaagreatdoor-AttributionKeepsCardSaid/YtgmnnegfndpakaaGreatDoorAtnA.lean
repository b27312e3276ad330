import Derived.Test.YtgmnnegfndpakaaGreatDoorT05
import Derived.Test.YtgmnnegfndpakaaGreatDoorN01
set_option maxHeartbeats 20000000
set_option maxRecDepth 100000
namespace Go.Proofs.YtgmnnegfndpakaaGreatDoor
open Go.RowKit Go.Proofs.Tryz
theorem aMU{p:aJ}{elems:List (List Nm)}(hc:kN elems p=0)(h5:p.kind≠5):((aaV p elems).e=0\/(aaV p elems).e=3)/\∀k:Int,k=3\/k=4->((aaV (aaO k p) elems).e=0\/(aaV (aaO k p) elems).e=3)/\((aaV (aaO k p) elems).e=0->UqS (aaV p elems) (aaV (aaO k p) elems)):=by
 obtain⟨hg,hn,-⟩:=Vz hc h5;have h0:0<=dC p:=(by rw[Au p hg hn];omega);refine⟨aS5 (.inl hc),λk hk=>⟨aS5 (aS6 hk h5 h0 hc),λhe=>?_⟩⟩
 have hm:(DJ (aaO k p) elems).2=0:=by
  unfold aaV at he;by_cases hm:(DJ (aaO k p) elems).2≠0
  ·rw[if_pos hm] at he;exact absurd he hm
  exact Decidable.of_not_not hm
 exact aS3 hk h5 h0 hc (aza hm).1
theorem aNq{p:aJ}{elems:List (List Nm)}(he:(aaV p elems).e=0)(hi:(aaV p elems).is=false):(aaV p elems).a<100000/\(aaV p elems).b<100000:=by
 obtain⟨hm,-,r,hb⟩:=aPn he hi;have hn:=af6 (J5 (aza hm).1).2.2.1
 have key:∀i∈ack elems (aaj p 0) (TG p elems (aaV p elems).word).1 (aaV p elems).name,i<100000:=λi hi=>by
  obtain⟨q,h1,-⟩:=azX (List.mem_filter.1 hi).2;have:=aAX p 0 _ h1;omega
 exact⟨key _ (by rw[hb];simp),key _ (by rw[hb];simp)⟩
theorem aNr{elems:List (List Nm)}{L:List (Nat×aJ)}{i:Nat}{y:Nat×aJ}(h:L[i]?=some y)(sn:List Nm):alO elems (L.drop i) sn=if y.2.kind=2 then false else ((elemAt elems y.2.el).all λn=>sn.all λs=>!eqN s n)&&alO elems (L.drop (i+1)) (sn++elemAt elems y.2.el):=by
 obtain⟨hi,rfl⟩:=List.getElem?_eq_some_iff.1 h;rw[List.drop_eq_getElem_cons hi,alO]
theorem aAq{l:List Nm}{k:Nat}{y:Nm}{f:Nm->Bool}(h:l[k]?=some y):(l.drop k).all f=(f y&&(l.drop (k+1)).all f):=by
 obtain⟨hi,rfl⟩:=List.getElem?_eq_some_iff.1 h;rw[List.drop_eq_getElem_cons hi,List.all_cons]
theorem aNt{p:aJ}{elems:List (List Nm)}(hc:kN elems p=0){i:Nat}{x:List Nm}(h:elems[i]?=some x):x.length<=6000:=by
 have h1:=(VW hc).1;rw[List.length_flatten] at h1;have h2:x.length∈elems.map List.length:=List.mem_map.2 ⟨x,SK h,rfl⟩
 have h3:∀{l:List Nat} {n:Nat},n∈l->n<=l.sum:=by
  intro l
  induction l with
  | nil=>intro n h;cases h
  | cons a l ih=>
    intro n h;rw[List.sum_cons]
    rcases TT.1 h with rfl | h
    ·omega
    have:=ih h;omega
 have:=h3 h2;omega
theorem aJp{W:World}{b:Nat}{k:Int}{p:aJ}{ca:List Value}{t:TypeId}{fr:Nat×Nat}(h:W.heap[b]?=some (.cells ca.toArray t fr))(hp:au W (· <W.heap.size) (aZ p) ca):au W (· <W.heap.size) (aZ (aaO k p)) [.int .i64 k,.int .i64 1,.int .i64 1,.int .i64 0,.int .i64 0,.string ⟨#[]⟩,.string ⟨#[]⟩,.string ⟨#[]⟩,.slice none 0 0,.slice none 0 0,.int .i64 0,.slice (some ⟨b,0,none⟩) 1 1]:=by
 have hc:=aOJ (ca:=ca) (cb:=[]) (by rw[List.append_nil];exact h);refine aXd (args:=[p]) 1 ⟨rfl,λ_=>⟨b,0,rfl,aC h,?_⟩⟩ zD;rw[List.map_singleton,bK,bK];exact⟨⟨_,hc.1,hp⟩,trivial⟩
theorem aYq(p:aJ)(elems:List (List Nm))(cs:List Value)(w:World)(eA:Option Addr)(en ec:Nat)(hr:au w (· <w.heap.size) (aZ p) cs)(he:bM w (· <w.heap.size) 1 (elems.map nU) eA en)(jR:en<6000000000000)(hT:Tab w):
 Rt 10 #[.agg cs.toArray,.slice eA en ec] w (.bool true):=by
 have a2H:Hid (bT (elems.length:Int) true p=true->dh p<100000->∀W,Bw w W->Cl 35 #[.agg cs.toArray,.int .i64 0] W (ayL W w.heap.size (aaj p 0) (0+dh p))):=zH λh1 h2 W hW=>aKV _ p true h1 cs W w.heap.size 0 hW.size (hr.below hW) zO;obtain⟨k,mn,mx,el,ck,ns,nl,sp,A1,n1,c1,A2,n2,c2,pr,A0,n0,c0,rfl,pz,-⟩:=aW hr;obtain⟨w1,bI,S1,nC,ai⟩:=zP1 w k mn mx el ck ns nl sp A1 n1 c1 A2 n2 c2 pr A0 n0 c0;obtain⟨q0,q1,q2,q3,q4,q5,q6,q7,q8,q9,aF,aG⟩:=aj S1;obtain⟨E,hE⟩:=zF (kN elems p);have aNZ:Hid (∀W,Bw w W->Cl 11 #[.agg (o5 k mn mx el ck ns nl sp A1 n1 c1 A2 n2 c2 pr A0 n0 c0),.slice eA en ec] W λe w'=>ayD e/\Bw W w'):=zH λW hb=>ajb p elems _ W _ eA en ec (hr.below hb) (he.keepW hb) jR;have aX8:Hid (∀W,Bw w W->Cl 32 #[.agg (o5 k mn mx el ck ns nl sp A1 n1 c1 A2 n2 c2 pr A0 n0 c0)] W λe w'=>ayD e/\Bw W w'):=zH λW hb=>aFS p _ W _ (hr.below hb);have aD9:Hid (∀W,Bw w W->Rt 14 #[.agg (o5 k mn mx el ck ns nl sp A1 n1 c1 A2 n2 c2 pr A0 n0 c0),.slice eA en ec] W (.int .i64 E)):=zH λW hb=>(by rw[<-hE];exact acN elems p _ eA en ec W _ _ (hr.below hb) (he.below hb) jR);have aTQ:Hid (∀W,Bw w W->Rt 33 #[] W (.bool true)):=zH λW hb=>aXZ W (hT.below hb);obtain⟨⟨is,ca,cb,wd,⟨na,nb⟩,er⟩,hR⟩:∃R,aaV p elems=R:=⟨_,rfl⟩;obtain⟨⟨is3,ca3,cb3,wd3,⟨na3,nb3⟩,er3⟩,hR3⟩:∃R,aaV (aaO 3 p) elems=R:=⟨_,rfl⟩;obtain⟨⟨is4,ca4,cb4,wd4,⟨na4,nb4⟩,er4⟩,hR4⟩:∃R,aaV (aaO 4 p) elems=R:=⟨_,rfl⟩
 have aWS:Hid (∀W,Bw w W->Cl 34 #[.agg (o5 k mn mx el ck ns nl sp A1 n1 c1 A2 n2 c2 pr A0 n0 c0),.slice eA en ec] W λe w'=>∃A n c,e= .returned (.tuple #[.bool is,.agg #[.int .i64 (ca:Int),.int .i64 (cb:Int),.slice A n c,.string na,.string nb],.int .i64 er])/\Bw W w'):=zH λW hb=>(aVC p elems _ W eA en ec (hr.keepW hb) (he.keepW hb) jR (hT.below hb)).mono λe w' ⟨A,n,c,h1,_,_,_,h4⟩=>by
  rw[hR] at h1;exact⟨A,n,c,h1,h4⟩
 have HW3:Hid (∀W b,Bw w W->W.heap[b]?=some (.cells #[.int .i64 k,.int .i64 mn,.int .i64 mx,.int .i64 el,.int .i64 ck,.string ns,.string nl,.string sp,.slice A1 n1 c1,.slice A2 n2 c2,.int .i64 pr,.slice A0 n0 c0] 29)->Cl 34 #[.agg #[.int .i64 3,.int .i64 1,.int .i64 1,.int .i64 0,.int .i64 0,.string ⟨#[]⟩,.string ⟨#[]⟩,.string ⟨#[]⟩,.slice none 0 0,.slice none 0 0,.int .i64 0,.slice (some ⟨b,0,none⟩) 1 1],.slice eA en ec] W λe w'=>∃A n c,e= .returned (.tuple #[.bool is3,.agg #[.int .i64 (ca3:Int),.int .i64 (cb3:Int),.slice A n c,.string na3,.string nb3],.int .i64 er3])/\Bw W w'):=zH λW b hb hW=>(aVC (aaO 3 p) elems _ W eA en ec (aJp hW (hr.keepW hb)) (he.keepW hb) jR (hT.below hb)).mono λe w' ⟨A,n,c,h1,_,_,_,h4⟩=>by
  rw[hR3] at h1;exact⟨A,n,c,h1,h4⟩
 have HW4:Hid (∀W b,Bw w W->W.heap[b]?=some (.cells #[.int .i64 k,.int .i64 mn,.int .i64 mx,.int .i64 el,.int .i64 ck,.string ns,.string nl,.string sp,.slice A1 n1 c1,.slice A2 n2 c2,.int .i64 pr,.slice A0 n0 c0] 29)->Cl 34 #[.agg #[.int .i64 4,.int .i64 1,.int .i64 1,.int .i64 0,.int .i64 0,.string ⟨#[]⟩,.string ⟨#[]⟩,.string ⟨#[]⟩,.slice none 0 0,.slice none 0 0,.int .i64 0,.slice (some ⟨b,0,none⟩) 1 1],.slice eA en ec] W λe w'=>∃A n c,e= .returned (.tuple #[.bool is4,.agg #[.int .i64 (ca4:Int),.int .i64 (cb4:Int),.slice A n c,.string na4,.string nb4],.int .i64 er4])/\Bw W w'):=zH λW b hb hW=>(aVC (aaO 4 p) elems _ W eA en ec (aJp hW (hr.keepW hb)) (he.keepW hb) jR (hT.below hb)).mono λe w' ⟨A,n,c,h1,_,_,_,h4⟩=>by
  rw[hR4] at h1;exact⟨A,n,c,h1,h4⟩
 have HKL:Hid (kN elems p=0->p.kind≠5->(er=0\/er=3)/\(er3=0\/er3=3)/\(er4=0\/er4=3)/\(er=0->er3=0->er4=0->is3=is/\is4=is/\(is=false->ca3=ca+1/\cb3=cb+1/\na3=na/\nb3=nb/\ca<100000/\cb<100000)/\(alO elems (aaj p 0) []=true->is=true))):=zH λhc h5=>by
  obtain⟨h1,h2⟩:=aMU hc h5;obtain⟨h3,u3⟩:=h2 3 (.inl rfl);obtain⟨h4,u4⟩:=h2 4 (.inr rfl);have bP:=aNq (p:=p) (elems:=elems);have hap:=aPo (p:=p) (elems:=elems) hc;rw[hR] at h1 u3 u4 bP hap;rw[hR3] at h3 u3;rw[hR4] at h4 u4;refine⟨h1,h3,h4,λe0 e3 e4=>?_⟩;have a3:=u3 e3;have a4:=u4 e4;refine⟨a3.is,a4.is,λhi=>?_,λh=>hap h e0⟩;obtain⟨b1,b2,b3⟩:=a3.cl e0 hi;have b4:(na3,nb3)=(na,nb):=b3;obtain⟨b5,b6⟩:=bP e0 hi;exact⟨b1,b2,congrArg Prod.fst b4,congrArg Prod.snd b4,b5,b6⟩
 obtain⟨jG,HE,HT,aQ,nK,HEE,MI⟩:=zJ7 hr he hT S1 ai hE pz;clear hr he hT S1 ai hE pz hR hR3 hR4;go_enter func10,ntmps10;go_upto_region 1 with fail
 go_cut [39] (λs39 W=>∃g:Bool,s39= .bool g/\Hid (g=false->k≠5/\E=0)/\Bw w1 W)
 case first=>
  go_wp2_with fail;refine (aNZ.out _ nK.out).mono ?_;rintro e w2 ⟨⟨b,rfl⟩,ag⟩;cases b
  rotate_left 1
  ·go_wp2_with fail;go_meet;exact⟨true,rfl,zH (λh=>by cases h),ag⟩
  clear q0 q1 q2 q3 q4 q5 q6 q7 q8 q9 aF aG;obtain⟨q0,q1,q2,q3,q4,q5,q6,q7,q8,q9,aF,aG⟩:=aj (ae aQ.out ag);go_wp2_with fail;refine (aX8.out _ (nK.out.seq ag)).mono ?_;rintro e w3 ⟨⟨b,rfl⟩,az⟩;have Ep:=ag.seq az;cases b
  rotate_left 1
  ·go_wp2_with fail;go_meet;exact⟨true,rfl,zH (λh=>by cases h),Ep⟩
  clear q0 q1 q2 q3 q4 q5 q6 q7 q8 q9 aF aG;obtain⟨q0,q1,q2,q3,q4,q5,q6,q7,q8,q9,aF,aG⟩:=aj (ae aQ.out Ep);by_cases h5:k=5
  ·subst h5;go_wp2_with fail;go_meet;exact⟨true,rfl,zH (λh=>by cases h),Ep⟩
  have PL:(k==5)=false:=(by simpa using h5);have aC1:decide (k=5)=false:=(by simpa using h5);go_wp2_with fail;refine (aD9.out _ (nK.out.seq Ep)).mono ?_;rintro e w4 ⟨rfl,aX⟩;have wU:=Ep.seq aX;by_cases h0:E=0
  rotate_left 1
  ·have jV:(E !=0)=true:=(by simpa using h0);have gJ:decide (E=0)=false:=(by simpa using h0);have aQd:(E==0)=false:=(by simpa using h0);go_wp2_with fail;go_meet;exact⟨true,rfl,zH (λh=>by cases h),wU⟩
  have lq:=h5;subst h0;go_wp2_with fail;go_meet;exact⟨false,rfl,zH (λ_=>⟨lq,(by first | rfl | trivial)⟩),wU⟩
 obtain⟨wb,hwb⟩:=zE wc;subst hwb;obtain⟨g,rfl,HG,CZ⟩:=hcut;have aH:=nK.out.seq CZ;clear q0 q1 q2 q3 q4 q5 q6 q7 q8 q9 aF aG;obtain⟨q0,q1,q2,q3,q4,q5,q6,q7,q8,q9,aF,aG⟩:=aj (ae aQ.out CZ);cases g
 rotate_left 1
 ·go_wp2_with fail;refine (aTQ.out _ aH).mono ?_;rintro e w3 ⟨rfl,az⟩;go_wp2_with fail;go_ret;exact⟨rfl,aH.seq az⟩
 obtain⟨lq,hE0⟩:=HG.out rfl;have aA6:kN elems p=0:=(by rw[HEE.out];exact hE0);have h5:p.kind≠5:=(by rw[MI.out];exact lq);obtain⟨k1,k2,k3,k4⟩:=HKL.out aA6 h5;have HKF:=zH k4;obtain⟨hg,ahB,-⟩:=Vz aA6 h5;have azq:=zH aA6;obtain⟨-,-,xQ,-,aKy,-⟩:=J5 aA6;have Dc:dh p<100000:=(by have:=af6 xQ;omega);have SS:∀x∈aaj p 0,xE elems x.2/\(x.2.kind=1\/x.2.kind=2):=λx hx=>⟨aLi (afK _ p true 0 aKy x hx).1.2.2,(adT _).1 (afK _ p true 0 aKy x hx).1.1⟩;have HLF:=zH SS;have Ee:=zH (a2H.out aKy Dc);have hll:=agl p 0;have HLL:Hid ((aaj p 0).length<=40):=zH zO;have HER:Hid ((er=0\/er=3)/\(er3=0\/er3=3)/\(er4=0\/er4=3)):=zH ⟨k1,k2,k3⟩;have nG:=zH aH;clear HKL a2H HG hE0 lq h5 k1 k2 k3 k4 hg xQ aKy SS hll Dc aA6 ahB;go_wp2_with fail;refine (aWS.out _ aH).mono ?_;rintro e w3 ⟨A,n,c,rfl,az⟩;obtain⟨w4,vV,S4,IX,aX⟩:=af w3 (.cells #[.int .i64 (ca:Int),.int .i64 (cb:Int),.slice A n c,.string na,.string nb] 63);have h34:=az.seq aX;have WU:=zH S4;clear S4 q0 q1 q2 q3 q4 q5 q6 q7 q8 q9 aF aG;obtain⟨q0,q1,q2,q3,q4,q5,q6,q7,q8,q9,aF,aG⟩:=aj (ae aQ.out (CZ.seq h34));obtain⟨w5,pq,S5,IY,bg⟩:=zP1 w4 k mn mx el ck ns nl sp A1 n1 c1 A2 n2 c2 pr A0 n0 c0;have vW:=zH S5;clear S5;go_wp2_with fail;refine (a1l (some ⟨w4.heap.size,0,none⟩) 1 1 w5).mono ?_;rintro e w6 ⟨rfl,dQ⟩;have h46:=bg.seq dQ;have h36:=h34.seq h46;go_wp2_with fail;refine (HW3.out _ _ (nG.out.seq h36) (ae vW.out dQ)).mono ?_;rintro e w7 ⟨A3,n3,c3,rfl,eP⟩;obtain⟨w8,Kt,S8,hs8,eX⟩:=af w7 (.cells #[.int .i64 (ca3:Int),.int .i64 (cb3:Int),.slice A3 n3 c3,.string na3,.string nb3] 63);have HS8:=zH S8;have h48:=h46.seq (eP.seq eX);have h38:=h34.seq h48;clear S8 q0 q1 q2 q3 q4 q5 q6 q7 q8 q9 aF aG;obtain⟨q0,q1,q2,q3,q4,q5,q6,q7,q8,q9,aF,aG⟩:=aj (ae aQ.out (CZ.seq h38));obtain⟨w9,hw9,S9,hs9,uF⟩:=zP1 w8 k mn mx el ck ns nl sp A1 n1 c1 A2 n2 c2 pr A0 n0 c0;have XD:=zH S9;clear S9;go_wp2_with fail;refine (a1m (some ⟨w8.heap.size,0,none⟩) 1 1 w9).mono ?_;rintro e oH ⟨rfl,Gp⟩;have aNu:=uF.seq Gp;have aT7:=h38.seq aNu;go_wp2_with fail;refine (HW4.out _ _ (nG.out.seq aT7) (ae XD.out Gp)).mono ?_;rintro e KI ⟨A4,n4,c4,rfl,av6⟩;obtain⟨KJ,aCc,S12,aIO,Gm⟩:=af KI (.cells #[.int .i64 (ca4:Int),.int .i64 (cb4:Int),.slice A4 n4 c4,.string na4,.string nb4] 63);have aFH:=aNu.seq (av6.seq Gm);have aUe:Hid (Bw w4 KJ):=zH (h48.seq aFH);have aSI:Hid (Bw w8 KJ):=zH aFH;have aL9:Hid (Bw w1 KJ):=zH (CZ.seq (h38.seq aFH));have Lh:Hid (Bw w KJ):=zH (nG.out.seq (h38.seq aFH));clear S12 q0 q1 q2 q3 q4 q5 q6 q7 q8 q9 aF aG;obtain⟨q0,q1,q2,q3,q4,q5,q6,q7,q8,q9,aF,aG⟩:=aj (ae aQ.out aL9.out);obtain⟨x0,x1,-,x3,x4⟩:=aVB (ae WU.out aUe.out);obtain⟨y0,y1,-,y3,y4⟩:=aVB (ae HS8.out aSI.out);clear h34 h46 h36 h48 h38 aNu aT7 aFH;by_cases aT8:er=0/\er3=0/\er4=0
 rotate_left 1
 ·have hx:er=3\/(er=0/\er3=3)\/(er=0/\er3=0/\er4=3):=(by have:=HER.out;omega);clear aT8 HKF aWS HW3 HW4
  rcases hx with rfl | ⟨rfl,rfl⟩ | ⟨rfl,rfl,rfl⟩
  all_goals
   go_wp2_with fail;refine (aTQ.out _ Lh.out).mono ?_;rintro e wB ⟨rfl,jX⟩;go_wp2_with fail;go_ret;exact⟨rfl,Lh.out.seq jX⟩
 obtain⟨rfl,rfl,rfl⟩:=aT8;obtain⟨jI,hi4,eH,hap⟩:=HKF.out rfl rfl rfl;have HAP:=zH hap;subst is3;subst is4;clear hap HKF aWS HW3 HW4 HER;go_upto_region 8 with fail
 go_cut [123] (λaP6 W=>aP6= .bool false/\W=KJ)
 case first=>
  cases is
  ·obtain⟨e1,e2,e3,e4,e5,e6⟩:=eH rfl;have n1:IntKind.i64.wrap ((ca:Int)+1)=(ca:Int)+1:=zS3;have n2:IntKind.i64.wrap ((cb:Int)+1)=(cb:Int)+1:=zS3;have gJ:((ca3:Int) !=(ca:Int)+1)=false:=(by rw[e1];simp);have jc:((cb3:Int) !=(cb:Int)+1)=false:=(by rw[e2];simp);have a3m:decide ((ca3:Int)=(ca:Int)+1)=true:=(by rw[e1];simp);have a3n:decide ((cb3:Int)=(cb:Int)+1)=true:=(by rw[e2];simp)
   have hq:∀W,(binOp .neq 23 (.agg #[.string na3,.string nb3]) (.agg #[.string na,.string nb])).run prog W= .ok (.bool false) W:=λW=>by
    have q1:∀b:ByteArray,eqS b b=true:=λb=>iV.2 rfl;rw[Qu,e3,e4,q1,q1];rfl
   clear eH e1 e2 e3 e4;go_wp2_with fail;go_meet;exact⟨rfl,rfl⟩
  clear eH;go_wp2_with fail;go_meet;exact⟨rfl,rfl⟩
 obtain⟨rfl,hwc⟩:=hcut;subst hwc;clear eH x0 x1 x3 x4 y0 y1 y3 y4;go_wp2_with fail;refine (Ee.out _ Lh.out).mono ?_;rintro e wB ⟨v,xs,rfl,ho,fQ,jX⟩;obtain⟨A9,c9,hv9,hr9,-,-⟩:=ho.row aEl zD;subst hv9;obtain⟨HR9,jr⟩:=zJ2 hr9 fQ;have hxn:xs.length<=40:=(by rw[fQ.1];exact HLL.out);obtain⟨nx,xw⟩:=zF xs.length;rw[xw] at HR9 hxn ⊢;have Du:Hid (nx=(aaj p 0).length):=zH (by rw[<-xw,fQ.1]);have aUf:Hid (Bw w wB):=zH (Lh.out.seq jX);obtain⟨T,hT⟩:=zF (alO elems (aaj p 0) []);have HTT:=zH hT;clear ho fQ hr9 q0 q1 q2 q3 q4 q5 q6 q7 q8 q9 aF aG xw jX hT;go_wp2_with fail
 go_loopw [16,17,18] (λs16 s17 s18 W=>∃(i:Nat) (ap:Bool) (sn:List Nm) (sA:Option Addr) (aAt sC:Nat),i<=nx/\s16= .slice sA aAt sC/\s17= .bool ap/\s18= .int .i64 (i:Int)/\ax W wB.heap.size 23 2 dK sn (.slice sA aAt sC)/\Hid (sn.length<=i*6000)/\Hid ((ap&&alO elems ((aaj p 0).drop i) sn)=T)/\Bw wB W) (λ_ _ s18 _=>nx - (intOf s18).toNat)
 case atStart=>exact⟨0,true,[],none,0,0,zO,rfl,rfl,rfl,ax.nil _ _ _ _ _,zH (Nat.zero_le _),zH (by rw[List.drop_zero,Bool.true_and];exact HTT.out),Below.refl _ _⟩
 obtain⟨i,ap,sn,sA,aAt,sC,hi,rfl,rfl,rfl,ho,Td,HI,dU⟩:=hrel;obtain⟨HBR,HO⟩:=zJ2 dU ho;have aNv:Bw w wr:=aUf.out.seq dU;have aJA:=zH aNv;by_cases aN:i<nx
 rotate_left 1
 ·obtain rfl:i=nx:=zO;have hd:=zT2 ((i:Int)<(i:Int))
  have Su:is=true\/ap=false:=by
   have h:=HI.out;rw[Du.out,List.drop_length,alO,Bool.and_true] at h
   cases ap with
   | false=>exact .inr rfl
   | true=>exact .inl (HAP.out (by rw[HTT.out,<-h]))
  clear ho dU
  rcases Su with rfl | rfl
  ·go_wp2_with fail;refine (aTQ.out _ aJA.out).mono ?_;rintro e w14 ⟨rfl,xW⟩;go_wp2_with fail;go_ret;exact⟨rfl,aJA.out.seq xW⟩
  cases is
  all_goals
   go_wp2_with fail;refine (aTQ.out _ aJA.out).mono ?_;rintro e w14 ⟨rfl,xW⟩;go_wp2_with fail;go_ret;exact⟨rfl,aJA.out.seq xW⟩
 have hd:=zT1 ((i:Int)<(nx:Int));obtain⟨y,hy⟩:∃y,(aaj p 0)[i]?=some y:=⟨_,List.getElem?_eq_getElem (by rw[<-Du.out];exact aN)⟩;have HY:=zH hy;have HAD:=zH (aNr (elems:=elems) hy sn);obtain⟨bx,ox,x,HX,a5c,hxc,hxi⟩:=(HR9.out.keep (F':=λ_=>True) λb hb=>⟨trivial,dU.block b hb.2⟩).lf aN c9;obtain⟨-,eG⟩:=jr.out.2 i x y HX.out HY.out;obtain⟨k3,mn3,J3,el3,ck3,ns3,nl3,sp3,B1,m1,d1,B2,m2,d2,pr3,B,m,d,fJ,bW,-,-,aJB,-⟩:=aW eG;rw[fJ] at hxc;obtain⟨z0,z1,z2,z3,z4,z5,z6,z7,z8,z9,nZ,og⟩:=hxc.twelve;obtain⟨o8,FN⟩:=HLF.out y (List.mem_iff_getElem?.2 ⟨_,HY.out⟩);clear hy dU ho eG hxc fJ;by_cases h2:k3=2
 ·subst h2
  have HX2:Hid ((false&&alO elems ((aaj p 0).drop (i+1)) sn)=T):=zH (by
   have h:=HI.out;rw[HAD.out,if_pos bW,Bool.and_false] at h
   rw[Bool.false_and];exact h)
  have aNw:Hid (sn.length<=(i+1)*6000):=zH (by have:=Td.out;omega);clear o8 FN bW aJB;go_wp2_with fail;go_roundw
  case rel=>exact⟨i+1,false,sn,sA,aAt,sC,zO,rfl,rfl,by go_num,HO.out,aNw,HX2,HBR.out⟩
  simp[intOf];omega
 have eu:y.2.kind=1:=FN.resolve_right λh=>h2 (by rw[<-bW];exact h);obtain rfl:k3=1:=(by rw[<-bW];exact eu);obtain⟨l0,l1⟩:=o8 eu;rw[aJB] at l0 l1;obtain⟨e,rfl⟩:∃e:Nat,el3=e:=⟨el3.toNat,zO⟩;have hlen:=HE.out.1;rw[List.length_map] at hlen;have hie:e<en:=zO;obtain⟨ob,off,lx,Ax,mx',cx,HLX,aYF,aI,GI,dO⟩:=(HE.out.keepW aNv).Uk hie ec;have hlx:elemAt elems y.2.el=lx:=(by unfold elemAt;rw[aJB,Int.toNat_natCast,HLX.out];rfl);have HL6:Hid (lx.length<=6000):=zH (aNt azq.out HLX.out);have Pv:Hid (mx'=lx.length):=zH aI.1;have lM:=zH aI;have UE:mx'<=6000:=(by rw[aI.1];exact HL6.out)
 have HX2:Hid ((ap&&(((lx.drop 0).all λn=>sn.all λs=>!eqN s n)&&alO elems ((aaj p 0).drop (i+1)) (sn++lx)))=T):=zH (by
  have h:=HI.out;rw[HAD.out,if_neg (by rw[eu];decide),hlx] at h
  rw[List.drop_zero];exact h)
 have Jh:aAt=sn.length:=HO.out.aTg.1;have FZ:=zH Jh;have Zo:aAt<=240000:=(by have:=Td.out;omega);clear o8 FN bW aJB eu l0 l1 hlen aI hlx Jh HI HAD aYF aNv;have J4:decide ((1:Int)=2)=false:=rfl;go_wp2_with fail
 go_loopw [17,20] (λs17 s20 W=>∃(ap:Bool) (k:Nat),k<=mx'/\s17= .bool ap/\s20= .int .i64 (k:Int)/\Hid ((ap&&(((lx.drop k).all λn=>sn.all λs=>!eqN s n)&&alO elems ((aaj p 0).drop (i+1)) (sn++lx)))=T)/\Bw wr W) (λ_ s20 _=>mx' - (intOf s20).toNat)
 case atStart=>exact⟨ap,0,zO,rfl,rfl,HX2,Below.refl _ _⟩
 rename World=>wo
 obtain⟨ap2,k,hk,rfl,rfl,HK,jB⟩:=hrel;have Z5:=zH jB;by_cases aUc:k<mx'
 rotate_left 1
 ·obtain rfl:k=mx':=zO;have hdk:=zT2 ((k:Int)<(k:Int))
  have HX3:Hid ((ap2&&alO elems ((aaj p 0).drop (i+1)) (sn++lx))=T):=zH (by
   have h:=HK.out;rw[Pv.out,List.drop_length,List.all_nil,Bool.true_and] at h
   exact h)
  have hbo:Bw wB wo:=HBR.out.seq jB;obtain⟨v',w14,bG,aw5,akT,-⟩:=aKd wo wB.heap.size sn lx _ (HO.out.keep jB) Ax k cx _ (lM.out.keepW jB) (by have h1:=Td.out;have h2:=HL6.out;omega) hbo.size 37;have aCY:Hid (Bw wB w14):=zH (hbo.trans (grown_below (HO.out.keep jB) hbo.size akT));obtain⟨A14,c14,rfl⟩:=aw5.form;obtain⟨n14,aVf⟩:=zF ((sn++lx).length);rw[aVf] at aw5 bG;obtain⟨qB,aDM⟩:=zJ2 bG aw5;have aNw:Hid ((sn++lx).length<=(i+1)*6000):=zH (by rw[List.length_append];have h1:=Td.out;have h2:=HL6.out;omega);clear bG aw5 akT hbo jB aVf
  go_wp2_with (at_builtin;refine wO rfl (.tmp 175) (.tmp 176) 37 rfl (v1:=.slice sA aAt sC) (v2:=.slice Ax k cx) rfl rfl qB.out ?_)
  go_roundw
  case rel=>exact⟨i+1,ap2,sn++lx,A14,n14,c14,zO,rfl,rfl,by go_num,aDM.out,aNw,HX3,aCY.out⟩
  simp[intOf];omega
 have hdk:=zT1 ((k:Int)<(mx':Int));obtain⟨b1,o1,u1,u2,HU,p0,p1,aYG⟩:=(lM.out.keepW jB).name aUc cx
 have HKD:Hid ((ap2&&(((sn.drop 0).all λs=>!eqN s (u1,u2))&&(((lx.drop (k+1)).all λn=>sn.all λs=>!eqN s n)&&alO elems ((aaj p 0).drop (i+1)) (sn++lx))))=T):=zH (by
  have h:=HK.out;rw[aAq HU.out] at h
  rw[List.drop_zero,<-Bool.and_assoc (sn.all _)];exact h)
 clear HK jB;go_wp2_with fail
 go_loopw [17,21] (λs17 s21 W=>∃(ap:Bool) (j:Nat),j<=aAt/\s17= .bool ap/\s21= .int .i64 (j:Int)/\Hid ((ap&&(((sn.drop j).all λs=>!eqN s (u1,u2))&&(((lx.drop (k+1)).all λn=>sn.all λs=>!eqN s n)&&alO elems ((aaj p 0).drop (i+1)) (sn++lx))))=T)/\Bw wo W) (λ_ s21 _=>aAt - (intOf s21).toNat)
 case atStart=>exact⟨ap2,0,zO,rfl,rfl,HKD,Below.refl _ _⟩
 rename World=>wi
 obtain⟨ap3,j,hj,rfl,rfl,HJ,hbj⟩:=hrel;have hbi:Bw wr wi:=Z5.out.seq hbj;by_cases aON:j<aAt
 rotate_left 1
 ·obtain rfl:j=aAt:=zO;have hdj:=zT2 ((j:Int)<(j:Int))
  have HX3:Hid ((ap3&&(((lx.drop (k+1)).all λn=>sn.all λs=>!eqN s n)&&alO elems ((aaj p 0).drop (i+1)) (sn++lx)))=T):=zH (by
   have h:=HJ.out;rw[FZ.out,List.drop_length,List.all_nil,Bool.true_and] at h
   exact h)
  have HBI:=zH hbi;clear hbi hbj;go_wp2_with fail;go_roundw
  case rel=>exact⟨ap3,k+1,zO,rfl,by go_num,HX3,HBI.out⟩
  simp[intOf];omega
 have hdj:=zT1 ((j:Int)<(aAt:Int));obtain⟨b2,o2,v1,v2,HV,r0,r1,auz⟩:=(HO.out.keep hbi).aTg.name aON sC;obtain⟨b1',o1',u1',u2',HU',s0,s1,a3l⟩:=(lM.out.keepW hbi).name aUc cx;obtain⟨rfl,rfl⟩:=Prod.mk.inj (zI (HU.out.symm.trans HU'.out));have t2:=Since.cell s0;have t3:=Since.cell s1;obtain⟨bv,jS⟩:=zF ((eqS v1 u1&&eqS v2 u2));have hq:∀W,(binOp .neq 23 (.agg #[.string v1,.string v2]) (.agg #[.string u1,.string u2])).run prog W= .ok (.bool (!bv)) W:=λW=>(by rw[Qu,jS])
 have sV:Hid ((ap3&&(!bv&&(((sn.drop (j+1)).all λs=>!eqN s (u1,u2))&&(((lx.drop (k+1)).all λn=>sn.all λs=>!eqN s n)&&alO elems ((aaj p 0).drop (i+1)) (sn++lx)))))=T):=zH (by
  have h:=HJ.out;rw[aAq HV.out] at h;have e1:eqN (v1,v2) (u1,u2)=bv:=jS;rw[e1,Bool.and_assoc (!bv)] at h
  exact h)
 have HBJ:=zH hbj;have t0:=Since.cell r0;have t1:=Since.cell r1;clear HJ hbi hbj jS HU';clear aYG;cases ap3
 ·have HX3:Hid ((false&&(((sn.drop (j+1)).all λs=>!eqN s (u1,u2))&&(((lx.drop (k+1)).all λn=>sn.all λs=>!eqN s n)&&alO elems ((aaj p 0).drop (i+1)) (sn++lx))))=T):=zH (by
   have h:=sV.out
   rw[Bool.false_and] at h ⊢;exact h)
  go_wp2_with fail;refine yh zK zK ?_
  repeat (go_big_quiet_step (first | fail))
  refine wpQuiet_nil ?_;intro wq hq;have Xo:=Ap hq;clear hq;go_wp2_with fail;go_roundw
  case rel=>exact⟨false,j+1,zO,rfl,by go_num,HX3,HBJ.out.seq Xo⟩
  simp[intOf];omega
 have HX3:Hid ((!bv&&(((sn.drop (j+1)).all λs=>!eqN s (u1,u2))&&(((lx.drop (k+1)).all λn=>sn.all λs=>!eqN s n)&&alO elems ((aaj p 0).drop (i+1)) (sn++lx))))=T):=zH (by
  have h:=sV.out
  rw[Bool.true_and] at h;exact h)
 go_wp2_with fail;refine yh zK zK ?_
 repeat (go_big_quiet_step (first | fail))
 refine wpQuiet_nil ?_;intro wq hq;have Xo:=Ap hq;clear hq;go_wp2_with fail;go_roundw
 case rel=>exact⟨!bv,j+1,zO,rfl,by go_num,HX3,HBJ.out.seq Xo⟩
 simp[intOf];omega
