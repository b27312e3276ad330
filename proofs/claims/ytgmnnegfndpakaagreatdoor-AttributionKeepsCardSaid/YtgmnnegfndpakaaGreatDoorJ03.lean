import Derived.Test.YtgmnnegfndpakaaGreatDoorH43
import Derived.Test.YtgmnnegfndpakaaGreatDoorH26
set_option maxHeartbeats 20000000
set_option maxRecDepth 100000
namespace Go.Proofs.YtgmnnegfndpakaaGreatDoor
open Go.RowKit Go.Proofs.Tryz
def lfV(x:Nat×rE 12):List Value:=.int .i64 (x.1:Int)::x.2.1
theorem aEl(x:Nat×rE 12):(lfV x).length=13:=by unfold lfV;rw[z9,x.2.2.1]
theorem aKS(l:List (Nat×rE 12)):∀u∈l.flatMap lfV,u.oneCell'=true:=by
 intro u hu;obtain⟨r,_,hx⟩:=List.mem_flatMap.1 hu;unfold lfV at hx
 rcases TT.1 hx with rfl | hx
 ·rfl
 exact r.2.2.2 u hx
theorem aKT:(prog.info? 70).map (λi=>(i.zero,i.size,i.bytes))=some (some (.agg #[.int .i64 0,.int .i64 0,.int .i64 0,.int .i64 0,.int .i64 0,.int .i64 0,.string ⟨#[]⟩,.string ⟨#[]⟩,.string ⟨#[]⟩,.slice none 0 0,.slice none 0 0,.int .i64 0,.slice none 0 0]),13,176):=by kernel_rfl
theorem aOu:rC prog 66 70 (.agg #[.int .i64 0,.int .i64 0,.int .i64 0,.int .i64 0,.int .i64 0,.int .i64 0,.string ⟨#[]⟩,.string ⟨#[]⟩,.string ⟨#[]⟩,.slice none 0 0,.slice none 0 0,.int .i64 0,.slice none 0 0]) 13 176:=sU zK aKT zK zD zD
theorem aEm(w:World)(base:Nat)(l l2:List (Nat×rE 12))(A0:Option Addr)(n0 c0:Nat)(dV:ax w base 70 13 lfV l (.slice A0 n0 c0))(A:Option Addr)(m c:Nat)(F:Nat->Prop)(hr:aY w F 13 lfV l2 A m)(hlen:l.length+l2.length<4000000)(eY:base<=w.heap.size)(ty:TypeId):
 ∃fA fn fc w',(Builtin.append_ #[66,66] ty #[.slice A0 n0 c0,.slice A m c]).run prog w= .ok (.slice fA fn fc) w'/\ax w' base 70 13 lfV (l++l2) (.slice fA fn fc)/\w.grownBy w' (Value.slice A0 n0 c0).ownBlock:=by
 obtain⟨ht,i,hi,hz,bY,nP,ry,h0,xZ⟩:=aOu;have hs:=hr.src aEl zD m (zR _);have lW:l2.take m=l2:=(by rw[hr.1];exact List.take_length);rw[lW] at hs;obtain⟨v',w',bG,r1,r2,-⟩:=TD (P:=prog) w base 66 ty 70 i _ 13 176 ht hi hz bY nP ry h0 _ _ _ dV A m c _ hs (aKS l2) (by rw[hr.1];exact hlen) xZ eY;have ho:ax w' base 70 13 lfV (l++l2) v':=(by unfold ax;rw[z5,List.flatMap_append,<-hr.1];exact r1);obtain⟨fA,fc,rfl⟩:=ho.form;exact⟨fA,_,fc,w',bG,ho,r2⟩
def afR(w:World)(B:Nat)(xs:List (Nat×rE 12))(l:List (Nat×aJ)):Prop:=xs.length=l.length/\∀(i:Nat) x y,xs[i]?=some x->l[i]?=some y->x.1=y.1/\au w (· <B) (aZ y.2) x.2.1
theorem afR.keep{w w':World}{B:Nat}{xs:List (Nat×rE 12)}{l:List (Nat×aJ)}(h:afR w B xs l)(hb:Below B w w'):afR w' B xs l:=⟨h.1,λi x y h1 h2=>⟨(h.2 i x y h1 h2).1,(h.2 i x y h1 h2).2.below hb⟩⟩
theorem afR.app{w:World}{B:Nat}{xs ys:List (Nat×rE 12)}{l m:List (Nat×aJ)}(h:afR w B xs l)(g:afR w B ys m):afR w B (xs++ys) (l++m):=by
 refine⟨by rw[z5,z5,h.1,g.1],λi x y h1 h2=>?_⟩
 rcases Nat.lt_or_ge i xs.length with hi | hi
 ·rw[z20 hi] at h1;rw[z20 (by rw[<-h.1];exact hi)] at h2;exact h.2 i x y h1 h2
 rw[z21 hi] at h1;rw[z21 (by rw[<-h.1];exact hi),<-h.1] at h2;exact g.2 _ x y h1 h2
theorem atx{l:List aJ}{i:Nat}{p:aJ}(h:l[i]?=some p)(num:Nat):aaH (l.take (i+1)) num=aaH (l.take i) num++aaj p (num+dZ (l.take i)):=by
 induction l generalizing i num with
 | nil=>cases h
 | cons q l ih=>
   cases i with
   | zero=>
     obtain rfl:=zI h;simp only[List.take_succ_cons,List.take_zero,aaH,dZ,List.nil_append,List.append_nil,Nat.add_zero]
   | succ i=>
     rw[List.take_succ_cons,List.take_succ_cons,aaH,aaH,ih h,dZ,List.append_assoc,Nat.add_assoc]
theorem ayM{l:List aJ}{i:Nat}{p:aJ}(h:l[i]?=some p):dZ (l.take (i+1))=dZ (l.take i)+dh p:=by
 induction l generalizing i with
 | nil=>cases h
 | cons q l ih=>
   cases i with
   | zero=>obtain rfl:=zI h;simp[dZ]
   | succ i=>rw[List.take_succ_cons,List.take_succ_cons,dZ,dZ,ih h];omega
theorem aEo(l:List aJ)(i:Nat):dZ (l.take i)<=dZ l:=by
 induction l generalizing i with
 | nil=>simp
 | cons q l ih=>
   cases i with
   | zero=>simp[dZ]
   | succ i=>rw[List.take_succ_cons,dZ,dZ];have:=ih i;omega
theorem agl:∀(p:aJ) (num:Nat),(aaj p num).length<=dh p:=by
 intro p
 induction p using aJ.ind with
 | h k mn mx el c pr args ih=>
 intro num;rw[aaj,dh]
 split
 ·simp
 have:∀(l:List aJ),(∀x∈l,∀num,(aaj x num).length<=dh x)->∀num,(aaH l num).length<=dZ l:=by
  intro l
  induction l with
  | nil=>intro _ num;rw[aaH,dZ];simp
  | cons q l ih2=>
    intro h num;rw[aaH,dZ,z5];have h1:=h q (List.mem_cons_self ..) num;have h2:=ih2 (λx hx=>h x (List.mem_cons_of_mem _ hx)) (num+dh q);omega
 have:=this args ih (num+1);omega
theorem akF:∀(l:List aJ) (num:Nat),(aaH l num).length<=dZ l+1
 | [],num=>by rw[aaH];simp
 | q::l,num=>by
   rw[aaH,dZ,z5];have h1:=agl q num;have h2:=akF l (num+dh q);omega
def ayL(w:World)(B:Nat)(l:List (Nat×aJ))(nx:Nat)(e:Ending)(w':World):Prop:=∃v xs,e= .returned (.tuple #[v,.int .i64 (nx:Int)])/\ax w' w.heap.size 70 13 lfV xs v/\afR w' B xs l/\Bw w w'
theorem aFy{n:Int}{top:Bool}{p:aJ}(h:bT n top p=true)(hk:¬fD p.kind=true):jZ n p.args=true:=by
 by_cases h3:p.kind=3
 ·rw[apv h3] at h;simp only[z7] at h;exact h.2
 by_cases h4:p.kind=4
 ·rw[apw h4] at h;simp only[z7] at h;exact h.2
 by_cases h5:p.kind=5
 ·rw[ahl h5] at h;simp only[z7] at h;exact h.1.2
 unfold fD at hk;simp only[Bool.or_eq_true,gy,not_or] at hk;rw[QR hk.1 hk.2 h3 h4 h5] at h;cases h
theorem aEn{n:Int}{top:Bool}{p:aJ}(h:bT n top p=true)(hk:p.kind=1\/p.kind=2):p.args=[]:=by
 rcases hk with hk | hk
 ·rw[abm hk] at h;simp only[z7,gy] at h;exact List.eq_nil_of_length_eq_zero h.2
 rw[abn hk] at h;simp only[z7,gy] at h;exact List.eq_nil_of_length_eq_zero h.1.1.1.2
theorem apY{n:Int}:∀{l:List aJ},jZ n l=true->∀x∈l,bT n false x=true
 | [],_,_,hx=>by cases hx
 | p::l,h,x,hx=>by
   rw[jZ] at h;simp only[z7] at h
   rcases TT.1 hx with rfl | hx
   ·exact h.1.2
   exact apY h.2 x hx
theorem rE.aOv{w:World}{F:Nat->Prop}{p:aJ}{cs:List Value}(h:au w F (aZ p) cs):∃x:rE 12,x.1=cs:=by
 obtain⟨k,mn,mx,el,ck,ns,nl,sp,A1,n1,c1,A2,n2,c2,pr,A0,n0,c0,rfl,-⟩:=aW h;exact⟨⟨[.int .i64 k,.int .i64 mn,.int .i64 mx,.int .i64 el,.int .i64 ck,.string ns,.string nl,.string sp,.slice A1 n1 c1,.slice A2 n2 c2,.int .i64 pr,.slice A0 n0 c0],rfl,by intro u hu;simp only[TT,List.not_mem_nil,or_false] at hu;rcases hu with rfl | rfl | rfl | rfl | rfl | rfl | rfl | rfl | rfl | rfl | rfl | rfl<;>rfl⟩,rfl⟩
theorem aKV(n:Int):∀(p:aJ) (top:Bool),bT n top p=true->∀(cs:List Value) (w:World) (B at_:Nat),B<=w.heap.size->au w (· <B) (aZ p) cs->at_+dh p<1000000->
 Cl 35 #[.agg cs.toArray,.int .i64 (at_:Int)] w (ayL w B (aaj p at_) (at_+dh p)):=by
 intro p
 induction p using aJ.ind with
 | h k' nI mx' uo cl' pr' args ih=>
 intro top hf cs w B at_ hB h lQ;have rZ:Hid (∀x∈(aJ.mk k' nI mx' uo cl' pr' args).args,∀(top:Bool),bT n top x=true->∀(cs:List Value) (w:World) (B at_:Nat),B<=w.heap.size->au w (· <B) (aZ x) cs->at_+dh x<1000000->Cl 35 #[.agg cs.toArray,.int .i64 (at_:Int)] w (ayL w B (aaj x at_) (at_+dh x))):=zH ih;have HNP:Hid (dh (.mk k' nI mx' uo cl' pr' args)=1+dZ (aJ.mk k' nI mx' uo cl' pr' args).args):=zH (by rw[dh];rfl);have Ee:Hid (aaj (.mk k' nI mx' uo cl' pr' args) at_=if fD (aJ.mk k' nI mx' uo cl' pr' args).kind=true then [(at_,.mk k' nI mx' uo cl' pr' args)] else aaH (aJ.mk k' nI mx' uo cl' pr' args).args (at_+1)):=zH (by rw[aaj];rfl);obtain⟨p,hp⟩:=zF (aJ.mk k' nI mx' uo cl' pr' args);rw[hp] at rZ HNP Ee h hf lQ ⊢;clear ih hp;obtain⟨lc,hlc⟩:=rE.aOv h;have HLC:Hid (au w (· <B) (aZ p) lc.1):=zH (by rw[hlc];exact h);obtain⟨k,mn,mx,el,ck,ns,nl,sp,A1,n1,c1,A2,n2,c2,pr,A0,n0,c0,rfl,hk,-,-,-,-,-,hn0,aI⟩:=aW h;have hlen:n0=p.args.length:=(by have:=aI.1;rwa [z8] at this);obtain⟨w1,bI,S1,nC,ai⟩:=zP1 w k mn mx el ck ns nl sp A1 n1 c1 A2 n2 c2 pr A0 n0 c0;obtain⟨q0,aQ,nK,HK,lM,pR,HF,aOw⟩:=zK8 (aj S1) (zH S1) (zH ai) (zH hk) (zH aI) (zH hlen) (zH hf) (zH hlc);have Eh:=zH hB;clear S1 hk aI hlen hf hlc h hB;by_cases h12:k=1\/k=2
 ·have SS:fD p.kind=true:=(by rw[HK.out];unfold fD;simpa using h12);have Dc:dh p=1:=(by rw[HNP.out,aEn HF.out (by rw[HK.out];exact h12)];rfl);have aEp:Hid (aaj p at_=[(at_,p)]):=zH (by rw[Ee.out,if_pos SS]);rw[Dc] at lQ ⊢;obtain⟨w2,mJ,S2,uS,ag⟩:=af w1 (.cells #[.int .i64 (at_:Int),.int .i64 k,.int .i64 mn,.int .i64 mx,.int .i64 el,.int .i64 ck,.string ns,.string nl,.string sp,.slice A1 n1 c1,.slice A2 n2 c2,.int .i64 pr,.slice A0 n0 c0] 70);have gY:=zH S2;have hwr:IntKind.i64.wrap ((at_:Int)+1)=(at_:Int)+1:=zS3;clear S2 SS;go_enter func35,ntmps35
  rcases h12 with rfl | rfl
  all_goals
   go_wp2_with fail;refine bodyPost_ret (v:=.tuple #[.slice (some ⟨w1.heap.size,0,none⟩) 1 1,.int .i64 ((at_:Int)+1)]) (by simp[results,results35,go_sem]) rfl ?_;refine⟨_,[(at_,lc)],rfl,?_,?_,nK.out.seq ag⟩
   ·refine⟨by simp[aEl],.inr ⟨w1.heap.size,1,_,rfl,Nat.le_of_lt nC,gY.out,zR _,by unfold maxLen;omega,rfl,?_⟩⟩;simp only[List.flatMap_cons,List.flatMap_nil,List.append_nil];unfold lfV;rw[aOw.out];rfl
   rw[aEp.out];refine⟨rfl,λi x y h1 h2=>?_⟩
   cases i with
   | zero=>
     obtain rfl:=zI h1;obtain rfl:=zI h2;exact⟨rfl,HLC.out.below ((nK.out.seq ag).mono Eh.out)⟩
   | succ i=>cases h1
 have SS:¬fD p.kind=true:=(by rw[HK.out];unfold fD;simpa using h12);have CX:=apY (aFy HF.out SS);have HEV:Hid (∀x∈p.args,bT n false x=true):=zH CX;have aEp:Hid (aaj p at_=aaH p.args (at_+1)):=zH (by rw[Ee.out,if_neg SS]);have eu:=zT2 (k=1);have aTy:(k==1)=false:=zS1;have dm:=zT2 (k=2);have aTz:(k==2)=false:=zS1;have HLL:=zH (agl p at_);have gX:=HNP.out;clear SS CX h12;go_enter func35,ntmps35;go_wp2_with fail;clear q0
 go_loopw [6,7,8] (λs6 s7 s8 W=>∃(i:Nat) (vA:Option Addr) (vn vc:Nat) (xs:List (Nat×rE 12)),i<=n0/\s6= .slice vA vn vc/\s7= .int .i64 ((at_+1+dZ (p.args.take i):Nat):Int)/\s8= .int .i64 i/\Hid (ax W w1.heap.size 70 13 lfV xs (.slice vA vn vc))/\Hid (afR W B xs (aaH (p.args.take i) (at_+1)))/\Bw w1 W) (λ_ _ s8 _=>n0 - (intOf s8).toNat)
 case atStart=>exact⟨0,_,_,_,[],zO,rfl,by simp[dZ],rfl,zH (ax.nil _ _ _ _ _),zH ⟨rfl,λi x y h1 _=>by cases h1⟩,Below.refl _ _⟩
 obtain⟨i,vA,vn,vc,xs,hi,rfl,rfl,rfl,HO,jr,dU⟩:=hrel;have q0:=aj (ae aQ.out dU);by_cases aN:i<n0
 ·have hd:=zT1 ((i:Int)<(n0:Int));have aH:Bw w wr:=nK.out.seq dU;obtain⟨b,off,px,v0,v1,v2,v3,v4,v5,v6,v7,v8,v9,v10,v11,HX,eG,z0,z1,z2,z3,z4,z5,z6,z7,z8,z9,nZ,og,dO⟩:=(lM.out.below (aH.mono Eh.out)).DW aN c0;have bZ:=ayM HX.out;have hle:=aEo p.args (i+1);obtain⟨a,ha⟩:=zF (at_+1+dZ (p.args.take i));obtain⟨HC,HA,sV,HBR,hlx⟩:=zK5 (zH (rZ.out px (SK HX.out) false (HEV.out px (SK HX.out)) _ wr B a (by have:=aH.size;have:=Eh.out;omega) eG zO)) (zH ha) (zH bZ) (zH dU) (agl px a);have HLX:=zH hlx
  have FD:xs.length<=dZ (p.args.take i)+1:=by
   rw[jr.out.1];exact akF _ _
  rw[ha];clear eG dU;go_wp2_with fail;refine HC.out.mono ?_;rintro e w3 ⟨v3,ys,rfl,Tc,aEq,az⟩;obtain⟨A3,c3,rfl⟩:=Tc.form;obtain⟨A3',c3',e3,hr3,-,-⟩:=Tc.row aEl zD;obtain⟨rfl,-,rfl⟩:=z19 e3;have hyl:ys.length<=dh px:=(by rw[aEq.1];exact HLX.out);have alW:Below w1.heap.size wr w3:=az.mono HBR.out.size;have ho6:ax w3 w1.heap.size 70 13 lfV xs (.slice vA vn vc):=HO.out.keep az;obtain⟨fA,fn,fc,w4,bG,Ed,CY⟩:=aEm w3 w1.heap.size xs ys vA vn vc ho6 A3 _ c3 _ hr3 zO (by have:=alW.size;have:=HBR.out.size;omega) 66;have aX:Bw w1 w4:=(HBR.out.trans alW).trans (grown_below ho6 (by have:=alW.size;have:=HBR.out.size;omega) CY);obtain⟨qB,HB4⟩:=zJ2 bG aX
  have aOx:Hid (afR w4 B (xs++ys) (aaH (p.args.take (i+1)) (at_+1))):=zH (by
   rw[atx HX.out,HA.out]
   exact afR.app (jr.out.keep ((az.mono (by have:=aH.size;have:=Eh.out;omega)).trans ((grown_below ho6 (by have:=alW.size;have:=HBR.out.size;omega) CY).mono (by have:=Eh.out;omega)))) (aEq.keep ((grown_below ho6 (by have:=alW.size;have:=HBR.out.size;omega) CY).mono (by have:=Eh.out;omega))))
  have HO4:=zH Ed;clear Tc aEq ho6 bG Ed CY aX alW hr3 e3
  go_wp2_with (at_builtin;refine wO rfl (.tmp 43) (.tmp 44) 66 rfl (v1:=.slice vA vn vc) (v2:=.slice A3 ys.length c3) rfl rfl qB.out ?_)
  go_roundw
  case rel=>exact⟨i+1,_,_,_,_,zO,rfl,by rw[show at_+1+dZ (p.args.take (i+1))=a+dh px by have h1:=sV.out;have h2:=HA.out;omega];push_cast;rfl,by go_num,HO4,aOx,HB4.out⟩
  simp[intOf];omega
 obtain rfl:i=n0:=zO;have hd:=zT2 ((i:Int)<(i:Int));have Xt:p.args.take i=p.args:=(by rw[pR.out];exact List.take_length);rw[Xt] at jr ⊢;have xw:at_+1+dZ p.args=at_+dh p:=zO;rw[xw];go_wp2_with fail;refine bodyPost_ret (v:=.tuple #[.slice vA vn vc,.int .i64 ((at_+dh p:Nat):Int)]) (by simp[results,results35,go_sem]) rfl ?_;exact⟨_,xs,rfl,HO.out.low zO,by rw[aEp.out];exact jr.out,nK.out.seq dU⟩
theorem aY.lf{w:World}{F:Nat->Prop}{l:List (Nat×rE 12)}{A:Option Addr}{n:Nat}(h:aY w F 13 lfV l A n){i:Nat}(hi:i<n)(c:Nat):
 ∃b off x,Hid (l[i]?=some x)/\w.cell? ⟨b,off+i*13,none⟩=some (.int .i64 (x.1:Int))/\cu w b (off+i*13+1) x.2.1/\∀W,(Instr.indexAt 66 (.slice A n c) (.int .i64 (i:Int))).run prog W= .ok (.pointer (some ⟨b,off+i*13,none⟩)) W:=by
 obtain⟨b,off,x,hA,hx,hc⟩:=h.at_ hi;refine⟨b,off,x,zH hx,hc 0 _ rfl,λj v hv=>?_,dN (P:=prog) 66 70 13 underlying66 (λw=>by kernel_rfl) hA n c i hi⟩;have:=hc (j+1) v (by unfold lfV;rw[List.getElem?_cons_succ];exact hv);rwa [show off+i*13+1+j=off+i*13+(j+1) by omega]
theorem aFS(p:aJ)(cs:List Value)(w:World)(F:Nat->Prop)(h:au w F (aZ p) cs):Cl 32 #[.agg cs.toArray] w λe w'=>ayD e/\Bw w w':=by
 have bH:=au.here _ _ (jK _) h;obtain⟨k,mn,mx,el,ck,ns,nl,sp,A1,n1,c1,A2,n2,c2,pr,A0,n0,c0,rfl,-⟩:=aW bH;obtain⟨w1,bI,S1,nC,ai⟩:=zP1 w k mn mx el ck ns nl sp A1 n1 c1 A2 n2 c2 pr A0 n0 c0;have q0:=aj S1;obtain⟨pv,oC⟩:=zF (dC p);have aLT:Hid (∀W,Bw w W->Rt 16 #[.agg (o5 k mn mx el ck ns nl sp A1 n1 c1 A2 n2 c2 pr A0 n0 c0)] W (.int .i64 pv)):=zH λW hb=>(by rw[<-oC];exact aa4 p _ W _ (bH.below hb));have aQ:=zH S1;clear h bH S1 oC;obtain⟨b0,jV⟩:=zF (decide (k=5));obtain⟨b1,gJ⟩:=zF (decide ((3:Int)<(n0:Int)));obtain⟨b2,jc⟩:=zF (decide ((n0:Int)<=6));obtain⟨b3,sZ⟩:=zF (decide ((40:Int)<pv));obtain⟨b4,Ef⟩:=zF (decide (pv<=200));have aTx:(k==5)=b0:=(by rw[<-jV];rfl);go_enter func32,ntmps32;cases b0<;>cases b1<;>cases b2
 all_goals
  go_wp2_with fail
  first
   | (go_ret
      exact⟨⟨_,rfl⟩,ai⟩)
   | (refine (aLT.out _ ai).mono ?_
      rintro e w2 ⟨rfl,ag⟩;cases b3
      ·go_wp2_with fail;go_ret;exact⟨⟨_,rfl⟩,ai.seq ag⟩
      clear q0;have q0:=aj (ae aQ.out ag);go_wp2_with fail;refine (aLT.out _ (ai.seq ag)).mono ?_;rintro e w3 ⟨rfl,az⟩;go_wp2_with fail;go_ret
      exact⟨⟨_,rfl⟩,ai.seq (ag.seq az)⟩)
