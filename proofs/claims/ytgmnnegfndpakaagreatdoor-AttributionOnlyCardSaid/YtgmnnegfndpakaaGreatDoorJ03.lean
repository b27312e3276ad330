import Derived.Test.YtgmnnegfndpakaaGreatDoorH30
import Derived.Test.YtgmnnegfndpakaaGreatDoorH31
set_option maxHeartbeats 20000000
set_option maxRecDepth 100000
namespace Go.Proofs.YtgmnnegfndpakaaGreatDoor
open Go.RowKit Go.Proofs.Tryz
variable{elems:List (List Nm)}{p:aJ}{n sz i B:Nat}{once:List aU->List aU×dR}{L:List (Nat×aJ)}{α:Type}{w w':World}{F:Nat->Prop}{A:Option Addr}{xs:List (Nat×rE 12)}{top:Bool}{cs:List Value}{cells:α->List Value}{l:List α}
theorem az9(c:aT):TF (ahc 0 c c) (jP [c,c] ([],[]))=true↔∃y:Nm,vk c y.1 y.2=true:=by
 rw[azQ (aub _) (az5 0 c c [c,c] zP zP)];exact⟨λ⟨y,h⟩=>⟨y,h⟩,λ⟨y,h⟩=>⟨y,h⟩⟩
theorem agD(h:p.kind≠1)(n:Nm):Gf elems p n=(decide (jF p.cls=0)&&jJ n.1 n.2&&vk p.cls n.1 n.2):=by
 unfold Gf;rw[j5 h,ajU];unfold xg;by_cases h0:jF p.cls=0
 ·rw[j6 h0];cases jJ n.1 n.2<;>simp[h0]
 rw[j5 h0];simp[h0]
theorem agE{n:Nm}(h:Gf elems p n=true):Hr elems p=true:=by
 by_cases h1:p.kind=1
 ·unfold Gf at h;rw[j6 h1] at h;unfold Hr;rw[j6 h1];obtain⟨x,hx,-⟩:=Qc.1 h;exact decide_eq_true (List.length_pos_of_mem hx)
 rw[agD h1] at h;simp only[z7,gy] at h;unfold Hr;rw[j5 h1];have h2:=(az9 p.cls).2 ⟨n,h.2⟩;rw[h2];unfold IK;simp[h.1.1]
theorem azR(m:eQ):afX m:=λ_ _ _ _ h=>agE h
mutual
def aaj:aJ->Nat->List (Nat×aJ)
 | .mk k mn mx el c pr args,num=>if fD k=true then [(num,.mk k mn mx el c pr args)] else aaH args (num+1)
def aaH:List aJ->Nat->List (Nat×aJ)
 | [],_=>[]
 | p::l,num=>aaj p num++aaH l (num+dh p)
end
def ab8(pl:List aU):List (Nat×aJ):=pl.map λq=>(q.num,q.leaf)
theorem azS(pl:List aU)(f:List Nat)(i:Nat):ab8 (tZ pl f i)=ab8 pl:=by
 unfold ab8 tZ;apply List.ext_getElem?;intro k;rw[z17,z17,List.getElem?_modify]
 cases pl[k]? with
 | none=>simp
 | some q=>
   by_cases h:i=k<;>simp[h]
theorem ak9(f:List Nat):∀(l:List Nat) (pl:List aU),ab8 (l.foldl (λpl i=>tZ pl f i) pl)=ab8 pl
 | [],_=>rfl
 | i::l,pl=>by rw[JN,ak9 f l,azS]
theorem acB(pl:List aU)(x y:dR):ab8 (dB pl x y)=ab8 pl:=ak9 _ _ _
def ajD(once:List aU->List aU×dR)(L:List (Nat×aJ)):Prop:=∀pl,∀l∈ab8 (once pl).1,l∈ab8 pl\/l∈L
theorem agH(h:ajD once L):∀(n:Nat) (pl:List aU) (out:dR),∀l∈ab8 (kY once n pl out).1,l∈ab8 pl\/l∈L
 | 0,_,_,_,hl=>.inl hl
 | n+1,pl,out,l,hl=>by
   rw[kY] at hl
   rcases agH h n _ _ l hl with h1 | h1
   ·rw[acB] at h1;exact h pl l h1
   exact .inr h1
theorem aqN(h:ajD once L):∀(n:Nat) (pl:List aU) (out:dR),∀l∈ab8 (mY once n pl out).1,l∈ab8 pl\/l∈L
 | 0,_,_,_,hl=>.inl hl
 | n+1,pl,out,l,hl=>by
   rw[mY] at hl
   rcases aqN h n _ _ l hl with h1 | h1
   ·rw[acB] at h1;exact h pl l h1
   exact .inr h1
theorem ajE(h:ajD once L)(mn mx z:Int):ajD (rH once mn mx z) L:=λpl l hl=>by
 unfold rH at hl
 split at hl
 ·exact .inl hl
 dsimp only at hl
 split at hl
 ·rw[acB,acB] at hl
  rcases h _ l hl with h1 | h1
  ·exact agH h _ _ _ l h1
  exact .inr h1
 rw[acB] at hl
 rcases aqN h _ _ _ l hl with h1 | h1
 ·exact agH h _ _ _ l h1
 exact .inr h1
mutual
theorem ala:∀(p:aJ) (num:Nat),ajD (kL p num) (aaj p num)
 | .mk k mn mx el c pr args,num,pl,l,hl=>by
   rw[kL] at hl;rw[aaj];by_cases h:fD k=true
   ·rw[j6 h] at hl;rw[j6 h];unfold ab8 at hl ⊢;rw[Qb,z12] at hl;simpa using hl
   rw[j5 h] at hl;rw[j5 h];exact afZ (decide (k=3)) args (num+1) pl _ l hl
theorem afZ:∀(sq:Bool) (l:List aJ) (num:Nat) (pl:List aU) (out:dR),∀x∈ab8 (pI sq l num pl out).1,x∈ab8 pl\/x∈aaH l num
 | _,[],_,_,_,x,hx=>.inl hx
 | sq,p::l,num,pl,out,x,hx=>by
   have ht:=ajE (ala p num) p.mn p.mx (dC p) pl;rw[aaH,z12];rw[pI] at hx
   cases sq with
   | true=>
     rw[j6 rfl] at hx
     rcases afZ true l _ _ _ x hx with h1 | h1
     ·rw[acB] at h1
      rcases ht x h1 with h2 | h2
      ·exact .inl h2
      exact .inr (.inl h2)
     exact .inr (.inr h1)
   | false=>
     rw[j5 zP] at hx
     rcases afZ false l _ _ _ x hx with h1 | h1
     ·rcases ht x h1 with h2 | h2
      ·exact .inl h2
      exact .inr (.inl h2)
     exact .inr (.inr h1)
end
theorem ajF:∀(l:List aJ) (s i unit rest:Nat) (x:Stp),x∈qH l s i unit rest->∃j,l[j]?=x.leaf/\x.num=i+j+1
 | [],_,_,_,_,x,h=>by simp[qH] at h
 | p::l,s,i,unit,rest,x,h=>by
   rw[qH,z12] at h
   rcases h with h | h
   ·split at h
    ·rw[og] at h;subst h;exact⟨0,rfl,rfl⟩
    simp at h
   obtain⟨j,h1,h2⟩:=ajF l s (i+1) _ _ x h;exact⟨j+1,h1,zO⟩
theorem af0:∀(l:List aJ) (num:Nat),(∀p∈l,fD p.kind=true/\p.args=[])->∀j p,l[j]?=some p->(num+j,p)∈aaH l num
 | [],_,_,j,p,h=>by simp at h
 | q::l,num,hl,j,p,h=>by
   have hq:=hl q zP;rw[aaH,z12]
   have hn:dh q=1:=by
    obtain⟨k,mn,mx,el,c,pr,args⟩:=q;obtain rfl:args=[]:=hq.2;rw[dh,dZ]
   cases j with
   | zero=>
     obtain rfl:q=p:=(by simpa using h);left;obtain⟨k,mn,mx,el,c,pr,args⟩:=q;rw[aaj,j6 (show fD k=true from hq.1)];simp
   | succ j=>
     right;rw[hn];have:=af0 l (num+1) (λp hp=>hl p (by simp[hp])) j p (by simpa using h);rw[show num+(j+1)=num+1+j by omega];exact this
theorem aY.hi(h:aY w F sz cells l A n)(hi:i<=n):aY w F sz cells (l.take i) A i:=by
 refine⟨by rw[Ju,<-h.1];omega,λhp=>?_⟩;obtain⟨b,off,h1,h2,h3⟩:=h.2 (by rw[<-h.1];rw[Ju,<-h.1] at hp;omega)
 exact⟨b,off,h1,h2,λj x hx=>by
  rw[List.getElem?_take] at hx
  split at hx
  ·exact h3 j x hx
  cases hx⟩
theorem aY.lo{c:Nat}(h:aY w F sz cells l A n)(hi:i<=n)(hc:n<=c):aY w F sz cells (l.drop i) (if c=i then A else A.map (·.add (i*sz))) (n - i):=by
 refine⟨by rw[List.length_drop,<-h.1],λhp=>?_⟩;rw[List.length_drop,<-h.1] at hp;obtain⟨b,off,h1,h2,h3⟩:=h.2 (by rw[<-h.1];omega);refine⟨b,off+i*sz,?_,h2,λj x hx=>?_⟩
 ·rw[j5 zO,h1];simp[Addr.add]
 rw[List.getElem?_drop] at hx;have:=h3 (i+j) x hx;rw[Nat.add_mul,<-Nat.add_assoc] at this;exact this
theorem aY.keepW(h:aY w (· <w) sz cells l A n)(hb:Bw w w'):aY w' (· <w') sz cells l A n:=(h.below hb).imp λb h=>by have:=hb.size;omega
def lfV(x:Nat×rE 12):List Value:=x.1::x.2.1
theorem aEl(x:Nat×rE 12):(lfV x).length=13:=by unfold lfV;rw[z9,x.2.2.1]
theorem aKS(l:List (Nat×rE 12)):∀u∈l.flatMap lfV,u.oneCell'=true:=by
 intro u hu;obtain⟨r,_,hx⟩:=List.mem_flatMap.1 hu;unfold lfV at hx
 rcases TT.1 hx with rfl | hx
 ·rfl
 exact r.2.2.2 u hx
theorem aKT:(prog.info? 70).map (λi=>(i.zero,i.size,i.bytes))=some (some (.agg #[.int .i64 0,.int .i64 0,.int .i64 0,.int .i64 0,.int .i64 0,.int .i64 0,.string ⟨#[]⟩,.string ⟨#[]⟩,.string ⟨#[]⟩,.slice none 0 0,.slice none 0 0,.int .i64 0,.slice none 0 0]),13,176):=by kernel_rfl
theorem aOu:rC prog 66 70 (.agg #[(0:Int),(0:Int),(0:Int),(0:Int),(0:Int),(0:Int),.string ⟨#[]⟩,.string ⟨#[]⟩,.string ⟨#[]⟩,(),(),(0:Int),()]) 13 176:=sU zK aKT zK zD zD
theorem aEm(w:World)(base:Nat)(l l2:List (Nat×rE 12))(A0:Option Addr)(n0 c0:Nat)(dV:ax w base 70 13 lfV l (A0,n0,c0))(A:Option Addr)(m c:Nat)(F:Nat->Prop)(hr:aY w F 13 lfV l2 A m)(hlen:l.length+l2.length<4000000)(eY:base<=w)(ty:TypeId):
 ∃fA fn fc w',(Builtin.append_ #[66,66] ty #[(A0,n0,c0),(A,m,c)]).run prog w= .ok (.slice fA fn fc) w'/\ax w' base 70 13 lfV (l++l2) (.slice fA fn fc)/\w.grownBy w' (Value.slice A0 n0 c0).ownBlock:=by
 obtain⟨ht,i,hi,hz,bY,nP,ry,h0,xZ⟩:=aOu;have hs:=hr.src aEl zD m (zR _);have lW:l2.take m=l2:=(by rw[hr.1];exact List.take_length);rw[lW] at hs;obtain⟨v',w',bG,r1,r2,-⟩:=TD (P:=prog) w base 66 ty 70 i _ 13 176 ht hi hz bY nP ry h0 _ _ _ dV A m c _ hs (aKS l2) (by rw[hr.1];exact hlen) xZ eY;have ho:ax w' base 70 13 lfV (l++l2) v':=(by unfold ax;rw[z5,l6,<-hr.1];exact r1);obtain⟨fA,fc,rfl⟩:=ho.form;exact⟨fA,_,fc,w',bG,ho,r2⟩
def afR(w:World)(B:Nat)(xs:List (Nat×rE 12))(l:List (Nat×aJ)):Prop:=xs.length=l.length/\∀(i:Nat) x y,xs[i]?=some x->l[i]?=some y->x.1=y.1/\au w (· <B) (aZ y.2) x.2.1
theorem afR.keep{l:List (Nat×aJ)}(h:afR w B xs l)(hb:Below B w w'):afR w' B xs l:=⟨h.1,λi x y h1 h2=>⟨(h.2 i x y h1 h2).1,(h.2 i x y h1 h2).2.below hb⟩⟩
theorem afR.app{ys:List (Nat×rE 12)}{l m:List (Nat×aJ)}(h:afR w B xs l)(g:afR w B ys m):afR w B (xs++ys) (l++m):=by
 refine⟨by rw[z5,z5,h.1,g.1],λi x y h1 h2=>?_⟩
 rcases i8 i xs.length with hi | hi
 ·rw[z20 hi] at h1;rw[z20 (by rw[<-h.1];exact hi)] at h2;exact h.2 i x y h1 h2
 rw[z21 hi] at h1;rw[z21 (by rw[<-h.1];exact hi),<-h.1] at h2;exact g.2 _ x y h1 h2
theorem atx{l:List aJ}(h:l[i]?=p)(num:Nat):aaH (l.take (i+1)) num=aaH (l.take i) num++aaj p (num+dZ (l.take i)):=by
 induction l generalizing i num with
 | nil=>cases h
 | cons q l ih=>
   cases i with
   | zero=>
     obtain rfl:=zI h;simp only[Zs,List.take_zero,aaH,dZ,d6,m8,Qf]
   | succ i=>
     rw[Zs,Zs,aaH,aaH,ih h,dZ,d7,Nat.add_assoc]
theorem ayM{l:List aJ}(h:l[i]?=p):dZ (l.take (i+1))=dZ (l.take i)+dh p:=by
 induction l generalizing i with
 | nil=>cases h
 | cons q l ih=>
   cases i with
   | zero=>obtain rfl:=zI h;simp[dZ]
   | succ i=>rw[Zs,Zs,dZ,dZ,ih h];omega
theorem aEo(l:List aJ)(i:Nat):dZ (l.take i)<=dZ l:=by
 induction l generalizing i with
 | nil=>simp
 | cons q l ih=>
   cases i with
   | zero=>simp[dZ]
   | succ i=>rw[Zs,dZ,dZ];have:=ih i;omega
theorem agl:∀(p:aJ) (num:Nat),(aaj p num).length<=dh p:=by
 intro p
 induction p using aJ.ind with
 | h k mn mx el c pr args ih=>
 intro num;rw[aaj,dh]
 split
 ·simp
 have:∀(l:List aJ),(∀x∈l,∀num,(aaj x num).length<=dh x)->∀num,(aaH l num).length<=dZ l:=by
  intro l
  induction l with
  | nil=>intro _ num;rw[aaH,dZ];simp
  | cons q l ih2=>
    intro h num;rw[aaH,dZ,z5];have h1:=h q (List.mem_cons_self ..) num;have h2:=ih2 (λx hx=>h x (Zb _ hx)) (num+dh q);omega
 have:=this args ih (num+1);omega
theorem akF:∀(l:List aJ) (num:Nat),(aaH l num).length<=dZ l+1
 | [],num=>by rw[aaH];simp
 | q::l,num=>by
   rw[aaH,dZ,z5];have h1:=agl q num;have h2:=akF l (num+dh q);omega
def ayL(w:World)(B:Nat)(l:List (Nat×aJ))(nx:Nat)(e:Ending)(w':World):Prop:=∃v xs,e= .returned (.tuple #[v,nx])/\ax w' w 70 13 lfV xs v/\afR w' B xs l/\Bw w w'
theorem aFy{n:Int}(h:bT n top p=true)(hk:¬fD p.kind=true):jZ n p.args=true:=by
 by_cases h3:p.kind=3
 ·rw[apv h3] at h;simp only[z7] at h;exact h.2
 by_cases h4:p.kind=4
 ·rw[apw h4] at h;simp only[z7] at h;exact h.2
 by_cases h5:p.kind=5
 ·rw[ahl h5] at h;simp only[z7] at h;exact h.1.2
 unfold fD at hk;simp only[Bool.or_eq_true,gy,not_or] at hk;rw[QR hk.1 hk.2 h3 h4 h5] at h;cases h
theorem aEn{n:Int}(h:bT n top p=true)(hk:p.kind=1\/p.kind=2):p.args=[]:=by
 rcases hk with hk | hk
 ·rw[abm hk] at h;simp only[z7,gy] at h;exact g9 h.2
 rw[abn hk] at h;simp only[z7,gy] at h;exact g9 h.1.1.1.2
theorem apY{n:Int}:∀{l:List aJ},jZ n l=true->∀x∈l,bT n false x=true
 | [],_,_,hx=>by cases hx
 | p::l,h,x,hx=>by
   rw[jZ] at h;simp only[z7] at h
   rcases TT.1 hx with rfl | hx
   ·exact h.1.2
   exact apY h.2 x hx
theorem rE.aOv(h:au w F (aZ p) cs):∃x:rE 12,x.1=cs:=by
 obtain⟨k,mn,mx,el,ck,ns,nl,sp,A1,n1,c1,A2,n2,c2,pr,A0,n0,c0,rfl,-⟩:=aW h;exact⟨⟨[k,mn,mx,el,ck,ns,nl,sp,(A1,n1,c1),(A2,n2,c2),pr,(A0,n0,c0)],rfl,by intro u hu;simp only[TT,List.not_mem_nil,or_false] at hu;rcases hu with rfl | rfl | rfl | rfl | rfl | rfl | rfl | rfl | rfl | rfl | rfl | rfl<;>rfl⟩,rfl⟩
theorem aKV(n:Int):∀(p:aJ) (top:Bool),bT n top p=true->∀(cs:List Value) (w:World) (B at_:Nat),B<=w->au w (· <B) (aZ p) cs->at_+dh p<1000000->
 Cl 35 #[.agg cs.toArray,at_] w (ayL w B (aaj p at_) (at_+dh p)):=by
 intro p
 induction p using aJ.ind with
 | h k' nI mx' uo cl' pr' args ih=>
 intro top hf cs w B at_ hB h lQ;have rZ:Hid (∀x∈(aJ.mk k' nI mx' uo cl' pr' args).args,∀(top:Bool),bT n top x=true->∀(cs:List Value) (w:World) (B at_:Nat),B<=w->au w (· <B) (aZ x) cs->at_+dh x<1000000->Cl 35 #[.agg cs.toArray,at_] w (ayL w B (aaj x at_) (at_+dh x))):=zH ih;have HNP:Hid (dh (.mk k' nI mx' uo cl' pr' args)=1+dZ (aJ.mk k' nI mx' uo cl' pr' args).args):=zH (by rw[dh];rfl);have Ee:Hid (aaj (.mk k' nI mx' uo cl' pr' args) at_=if fD (aJ.mk k' nI mx' uo cl' pr' args).kind=true then [(at_,.mk k' nI mx' uo cl' pr' args)] else aaH (aJ.mk k' nI mx' uo cl' pr' args).args (at_+1)):=zH (by rw[aaj];rfl);obtain⟨p,hp⟩:=zF (aJ.mk k' nI mx' uo cl' pr' args);rw[hp] at rZ HNP Ee h hf lQ ⊢;clear ih hp;obtain⟨lc,hlc⟩:=rE.aOv h;have HLC:Hid (au w (· <B) (aZ p) lc.1):=zH (by rw[hlc];exact h);obtain⟨k,mn,mx,el,ck,ns,nl,sp,A1,n1,c1,A2,n2,c2,pr,A0,n0,c0,rfl,hk,-,-,-,-,-,hn0,aI⟩:=aW h;have hlen:n0=p.args.length:=(by have:=aI.1;rwa [z8] at this);obtain⟨w1,bI,S1,nC,ai⟩:=zP1 w k mn mx el ck ns nl sp A1 n1 c1 A2 n2 c2 pr A0 n0 c0;obtain⟨q0,aQ,nK,HK,lM,pR,HF,aOw⟩:=zK8 (aj S1) (zH S1) (zH ai) (zH hk) (zH aI) (zH hlen) (zH hf) (zH hlc);have Eh:=zH hB;clear S1 hk aI hlen hf hlc h hB;by_cases h12:k=1\/k=2
 ·have SS:fD p.kind=true:=(by rw[HK.out];unfold fD;simpa using h12);have Dc:dh p=1:=(by rw[HNP.out,aEn HF (by rw[HK.out];exact h12)];rfl);have aEp:Hid (aaj p at_=[(at_,p)]):=zH (by rw[Ee.out,j6 SS]);rw[Dc] at lQ ⊢;obtain⟨w2,mJ,S2,uS,ag⟩:=af w1 (Zc #[at_,k,mn,mx,el,ck,ns,nl,sp,(A1,n1,c1),(A2,n2,c2),pr,(A0,n0,c0)] 70);have gY:=zH S2;have hwr:IntKind.i64.wrap ((at_:Int)+1)=(at_:Int)+1:=zS3;clear S2 SS;go_enter func35,ntmps35
  rcases h12 with rfl | rfl
  all_goals
   go_wp2_with fail;refine Qg (v:=.tuple #[.slice (some ⟨w1,0,none⟩) 1 1,.int .i64 ((at_:Int)+1)]) (by simp[results,results35,go_sem]) rfl ?_;refine⟨_,[(at_,lc)],rfl,?_,?_,nK.seq ag⟩
   ·refine⟨by simp[aEl],.inr ⟨w1,1,_,rfl,Nat.le_of_lt nC,gY,zR _,by unfold maxLen;omega,rfl,?_⟩⟩;simp only[l4,List.flatMap_nil,m8];unfold lfV;rw[aOw.out];rfl
   rw[aEp.out];refine⟨rfl,λi x y h1 h2=>?_⟩
   cases i with
   | zero=>
     obtain rfl:=zI h1;obtain rfl:=zI h2;exact⟨rfl,HLC.below ((nK.seq ag).mono Eh)⟩
   | succ i=>cases h1
 have SS:¬fD p.kind=true:=(by rw[HK.out];unfold fD;simpa using h12);have CX:=apY (aFy HF SS);have HEV:Hid (∀x∈p.args,bT n false x=true):=zH CX;have aEp:Hid (aaj p at_=aaH p.args (at_+1)):=zH (by rw[Ee.out,j5 SS]);have eu:=zT2 (k=1);have aTy:(k==1)=false:=zS1;have dm:=zT2 (k=2);have aTz:(k==2)=false:=zS1;have HLL:=zH (agl p at_);have gX:=HNP.out;clear SS CX h12;go_enter func35,ntmps35;go_wp2_with fail;clear q0
 go_loopw [6,7,8] (λs6 s7 s8 W=>∃(i:Nat) (vA:Option Addr) (vn vc:Nat) (xs:List (Nat×rE 12)),i<=n0/\s6= (vA,vn,vc)/\s7= ((at_+1+dZ (p.args.take i):Nat):Int)/\s8= i/\Hid (ax W w1 70 13 lfV xs (vA,vn,vc))/\Hid (afR W B xs (aaH (p.args.take i) (at_+1)))/\Bw w1 W) (λ_ _ s8 _=>n0 - (intOf s8).toNat)
 case atStart=>exact⟨0,_,_,_,[],zO,rfl,by simp[dZ],rfl,zH (ax.nil _ _ _ _ _),zH ⟨rfl,λi x y h1 _=>by cases h1⟩,j9 _ _⟩
 obtain⟨i,vA,vn,vc,xs,hi,rfl,rfl,rfl,HO,jr,dU⟩:=hrel;have q0:=aj (ae aQ dU);by_cases aN:i<n0
 ·have hd:=zT1 ((i:Int)<(n0:Int));have aH:Bw w wr:=nK.seq dU;obtain⟨b,off,px,v0,v1,v2,v3,v4,v5,v6,v7,v8,v9,v10,v11,HX,eG,z0,z1,z2,z3,z4,z5,z6,z7,z8,z9,nZ,og,dO⟩:=(lM.below (aH.mono Eh)).DW aN c0;have bZ:=ayM HX;have hle:=aEo p.args (i+1);obtain⟨a,ha⟩:=zF (at_+1+dZ (p.args.take i));obtain⟨HC,HA,sV,HBR,hlx⟩:=zK5 (zH (rZ px (SK HX) false (HEV px (SK HX)) _ wr B a (by have:=aH.size;have:=Eh.out;omega) eG zO)) (zH ha) (zH bZ) (zH dU) (agl px a);have HLX:=zH hlx
  have FD:xs.length<=dZ (p.args.take i)+1:=by
   rw[jr.1];exact akF _ _
  rw[ha];clear eG dU;go_wp2_with fail;refine HC.mono ?_;rintro e w3 ⟨v3,ys,rfl,Tc,aEq,az⟩;obtain⟨A3,c3,rfl⟩:=Tc.form;obtain⟨A3',c3',e3,hr3,-,-⟩:=Tc.row aEl zD;obtain⟨rfl,-,rfl⟩:=z19 e3;have hyl:ys.length<=dh px:=(by rw[aEq.1];exact HLX);have alW:Below w1 wr w3:=az.mono HBR.size;have ho6:ax w3 w1 70 13 lfV xs (vA,vn,vc):=HO.keep az;obtain⟨fA,fn,fc,w4,bG,Ed,CY⟩:=aEm w3 w1 xs ys vA vn vc ho6 A3 _ c3 _ hr3 zO (by have:=alW.size;have:=HBR.size;omega) 66;have aX:Bw w1 w4:=(HBR.trans alW).trans (grown_below ho6 (by have:=alW.size;have:=HBR.size;omega) CY);obtain⟨qB,HB4⟩:=zJ2 bG aX
  have aOx:Hid (afR w4 B (xs++ys) (aaH (p.args.take (i+1)) (at_+1))):=zH (by
   rw[atx HX,HA.out]
   exact afR.app (jr.keep ((az.mono (by have:=aH.size;have:=Eh.out;omega)).trans ((grown_below ho6 (by have:=alW.size;have:=HBR.size;omega) CY).mono (by have:=Eh.out;omega)))) (aEq.keep ((grown_below ho6 (by have:=alW.size;have:=HBR.size;omega) CY).mono (by have:=Eh.out;omega))))
  have HO4:=zH Ed;clear Tc aEq ho6 bG Ed CY aX alW hr3 e3
  go_wp2_with (at_builtin;refine wO rfl (.tmp 43) (.tmp 44) 66 rfl (v1:=(vA,vn,vc)) (v2:=(A3,ys.length,c3)) rfl rfl qB ?_)
  go_roundw
  case rel=>exact⟨i+1,_,_,_,_,zO,rfl,by rw[show at_+1+dZ (p.args.take (i+1))=a+dh px by have h1:=sV.out;have h2:=HA.out;omega];push_cast;rfl,by go_num,HO4,aOx,HB4.out⟩
  simp[intOf];omega
 obtain rfl:i=n0:=zO;have hd:=zT2 ((i:Int)<(i:Int));have Xt:p.args.take i=p.args:=(by rw[pR.out];exact List.take_length);rw[Xt] at jr ⊢;have xw:at_+1+dZ p.args=at_+dh p:=zO;rw[xw];go_wp2_with fail;refine Qg (v:=.tuple #[(vA,vn,vc),((at_+dh p:Nat):Int)]) (by simp[results,results35,go_sem]) rfl ?_;exact⟨_,xs,rfl,HO.low zO,by rw[aEp.out];exact jr,nK.seq dU⟩
def ap4(el mn mx:Int):aJ:=.mk 1 mn mx el (.mk 0 ⟨#[]⟩ ⟨#[]⟩ ⟨#[]⟩ [] []) 0 []
theorem FX(el mn mx:Int)(w:World)(F:Nat->Prop):au w F (aZ (ap4 el mn mx)) [(1:Int),mn,mx,el,(0:Int),.string ⟨#[]⟩,.string ⟨#[]⟩,.string ⟨#[]⟩,(),(),(0:Int),()]:=by
 unfold ap4;rw[Et];simp only[wC,Ny,List.map_nil,m7,d6]
 have hs:∀sz:Nat,gI w F (.sl sz []) ():=λsz=>by
  rw[gI.LX];exact⟨none,0,rfl,zP,λh=>by simp at h⟩
 iterate 12
  rw[au.gu];refine⟨_,_,rfl,(by first | exact hs _ | rw[gI.rq]),?_⟩
 rw[au.oL]
theorem ax.Uk{base:Nat}{l:List Nm}{v:Value}(h:ax w base 23 2 dK l v)(hl:l.length<1000000)(hF:∀k,v.ownBlock=some k->F k):au w F (nU l) [v]:=by
 obtain⟨A,c,e,hr,-,-⟩:=h.rowAt wX zD F (λk hk=>hF k hk);subst e;unfold nU;rw[au.gu];refine⟨_,[],rfl,?_,by rw[au.oL]⟩;rw[gI.LX];refine⟨A,c,by rw[z8],by rw[z8];omega,λhp=>?_⟩;rw[z8] at hp;obtain⟨b,off,hA,hb,hc⟩:=hr.2 hp;refine⟨b,off,hA,hb,bK.Wv λi e he=>?_⟩;rw[z17] at he;obtain⟨x,hx,rfl⟩:=Option.map_eq_some_iff.1 he;exact⟨dK x,hc i x hx,by unfold nmD dK;rw[au.gu];refine⟨_,_,rfl,by rw[gI.rq],?_⟩;rw[au.gu];exact⟨_,[],rfl,by rw[gI.rq],by rw[au.oL]⟩⟩
theorem bM.keepW{es:List (List D)}(h:bM w (· <w) sz es A n)(hb:Bw w w'):bM w' (· <w') sz es A n:=h.keep λb h=>⟨by have:=hb.size;show b<w';omega,hb.block b h⟩
theorem au.keepW{ds:List D}(h:au w (· <w) ds cs)(hb:Bw w w'):au w' (· <w') ds cs:=h.keep λb h=>⟨by have:=hb.size;show b<w';omega,hb.block b h⟩
theorem azG{p:Prop} (h:p:=by
 clear aH dU hi;obtain⟨i,m,hi,rfl,rfl,dU⟩:=hrel;clear q0 q1 q2 q3 q4 q5;obtain⟨q0,q1,q2,q3,q4,q5⟩:=gG (ae aQ dU);have aH:=ai.seq dU;by_cases aN:i<n'
 ·have gJ:=zT1 (i<n');by_cases hm:m<1000
  ·have jc:=zT1 (m<1000);obtain⟨b1,xU,x,v0,v1,v2,v3,v4,v5,HX,eG,p0,p1,p2,p3,p4,p5,dO⟩:=h2.round aH aN c';go_wp2_with fail;refine (HI x _ _ _ eG).mono ?_;rintro e w2 ⟨⟨k2,rfl⟩,ag⟩;have az:=dU.trans (ag.mono dU.size);go_wp2_with fail;go_roundw
   case rel=>
    first
     | exact⟨i+1,_,zO,by go_num,rfl,az⟩
     | (refine⟨_,_,_,_,_,_,_,_,_,_,_,_,_,_,_,_,_,_,_,_,_,_,_,?_,rfl⟩;exact⟨i+1,_,zO,by go_num,rfl,az⟩)
   simp[intOf];omega
  have jc:=zT2 (m<1000);go_wp2_with fail;go_ret;exact⟨⟨_,rfl⟩,aH⟩
 have gJ:=zT2 (i<n');go_wp2_with fail;go_ret
 exact⟨⟨_,rfl⟩,aH⟩):p:=h
theorem aeV:∀(d:Nat),d<1000->∀(x:aT) (cs:List Value) (w:World) (F:Nat->Prop),dA w F x cs->
 Cl 72 #[.agg cs.toArray,.int .i64 (d:Nat)] w λe w'=>(∃k:Int,e= .returned k)/\Bw w w':=by
 intro d
 induction d with
 | zero=>
   rintro hd ⟨k,ns,nl,s,ex,ar⟩ cs w F hr;obtain⟨A,n,c,A',n',c',rfl,hl,zS,h1,h2⟩:=hr.form;obtain⟨w1,bI,S1,nC,ai⟩:=af w (Zc #[k,ns,nl,s,(A,n,c),(A',n',c')] 26);go_enter func72,ntmps72;go_wp2_with fail;go_ret;exact⟨⟨_,rfl⟩,ai⟩
 | succ d ih=>
   rintro hd ⟨k,ns,nl,s,ex,ar⟩ cs w F hr;obtain⟨A,n,c,A',n',c',rfl,hl,zS,h1,h2⟩:=hr.here.form;have HI:=zH (ih zO);clear ih hr;obtain⟨w1,bI,S1,nC,ai⟩:=af w (Zc #[k,ns,nl,s,(A,n,c),(A',n',c')] 26);obtain⟨q0,q1,q2,q3,q4,q5⟩:=gG S1;have aQ:=zH S1;clear S1;have hdp:decide ((d:Int)+1=0)=false:=decide_eq_false zO;have aD7:(((d:Int)+1)==0)=false:=zS1;go_enter func72,ntmps72;go_wp2_with fail;have HW:=zH bI;clear bI
   go_loopw [6,5] (λsi s5 wr=>∃(i:Nat) (m:Int),i<=n/\si= i/\s5= m/\Bw w1 wr)
    (λsi _ _=>n - (intOf si).toNat)
   case atStart=>exact⟨0,_,zO,rfl,rfl,j9 _ _⟩
   obtain⟨i,m,hi,rfl,rfl,dU⟩:=hrel;clear q0 q1 q2 q3 q4 q5;obtain⟨q0,q1,q2,q3,q4,q5⟩:=gG (ae aQ dU);have aH:=ai.seq dU;by_cases aN:i<n
   ·have gJ:=zT1 (i<n);by_cases hm:m<1000
    ·have jc:=zT1 (m<1000);obtain⟨b1,xU,x,v0,v1,v2,v3,v4,v5,HX,eG,p0,p1,p2,p3,p4,p5,dO⟩:=h1.round aH aN c;go_wp2_with fail;refine (HI x _ _ _ eG).mono ?_;rintro e w2 ⟨⟨k2,rfl⟩,ag⟩;have az:=dU.trans (ag.mono dU.size);go_wp2_with fail;go_roundw
     case rel=>
      first
       | exact⟨i+1,_,zO,by go_num,rfl,az⟩
       | (refine⟨_,_,_,_,_,_,_,_,_,_,_,_,_,_,_,_,_,_,_,_,_,_,_,?_,rfl⟩;exact⟨i+1,_,zO,by go_num,rfl,az⟩)
     simp[intOf];omega
    have jc:=zT2 (m<1000);go_wp2_with fail
    go_loopw [7,5] (λsi s5 wr=>∃(i:Nat) (m:Int),i<=n'/\si= i/\s5= m/\Bw w1 wr)
     (λsi _ _=>n' - (intOf si).toNat)
    case atStart=>exact⟨0,_,zO,rfl,rfl,dU⟩
    exact azG
   have gJ:=zT2 (i<n);go_wp2_with fail
   go_loopw [7,5] (λsi s5 wr=>∃(i:Nat) (m:Int),i<=n'/\si= i/\s5= m/\Bw w1 wr)
    (λsi _ _=>n' - (intOf si).toNat)
   case atStart=>exact⟨0,_,zO,rfl,rfl,dU⟩
   exact azG
theorem aja:∀(d:Nat),d<1000->∀(x:aJ) (cs:List Value) (w:World) (F:Nat->Prop),au w F (aZ x) cs->
 Cl 22 #[.agg cs.toArray,.int .i64 (d:Nat)] w λe w'=>(∃k:Int,e= .returned k)/\Bw w w':=by
 intro d
 induction d with
 | zero=>
   intro hd x cs w F hr;obtain⟨k,mn,mx,el,ck,ns,nl,sp,A1,n1,c1,A2,n2,c2,pr,A,n,c,rfl,-⟩:=aW hr;obtain⟨w1,bI,S1,nC,ai⟩:=zP1 w k mn mx el ck ns nl sp A1 n1 c1 A2 n2 c2 pr A n c;go_enter func22,ntmps22;go_wp2_with fail;go_ret;exact⟨⟨_,rfl⟩,ai⟩
 | succ d ih=>
   intro hd x cs w F hr;have bH:=au.here _ _ (jK _) hr;obtain⟨k,mn,mx,el,ck,ns,nl,sp,A1,n1,c1,A2,n2,c2,pr,A,n,c,rfl,-,-,-,-,-,eH,hn,aI⟩:=aW bH;have HI:=zH (ih zO);clear ih hr bH;obtain⟨w1,bI,S1,nC,ai⟩:=zP1 w k mn mx el ck ns nl sp A1 n1 c1 A2 n2 c2 pr A n c;have q0:=aj S1;have aQ:=zH S1;clear S1;have lM:=zH aI;have HC:=zH (aeV 20 zD _ _ w1 _ (eH.below ai));have hdp:decide ((d:Int)+1=0)=false:=decide_eq_false zO;have aD7:(((d:Int)+1)==0)=false:=zS1;clear eH aI;go_enter func22,ntmps22
   go_wp2_with (go_at_call 72;refine HC.mono ?_;rintro e w2 ⟨⟨k2,rfl⟩,ag⟩;have DU:=zH (ai.seq ag);have Lh:=zH ag;clear ag)
   go_loopw [6,5] (λsi s5 wr=>∃(i:Nat) (m:Int),i<=n/\si= i/\s5= m/\Bw w2 wr)
    (λsi _ _=>n - (intOf si).toNat)
   case atStart=>exact⟨0,_,zO,rfl,rfl,j9 _ _⟩
   obtain⟨i,m,hi,rfl,rfl,dU⟩:=hrel;clear q0;have q0:=aj (ae aQ (Lh.seq dU));have aH:=DU.seq dU;by_cases aN:i<n
   ·have gJ:=zT1 (i<n);by_cases hm:m<1000
    ·have jc:=zT1 (m<1000);obtain⟨b,off,px,v0,v1,v2,v3,v4,v5,v6,v7,v8,v9,v10,v11,HX,eG,z0,z1,z2,z3,z4,z5,z6,z7,z8,z9,nZ,og,dO⟩:=(lM.below aH).DW aN c;have RY:=zH (HI px _ wr _ eG);clear eG
     go_wp2_with (go_at_call 22;refine RY.mono ?_;rintro e w5 ⟨⟨k5,rfl⟩,bg⟩)
     go_roundw
     case rel=>
      first
       | exact⟨i+1,_,zO,by go_num,rfl,dU.seq bg⟩
       | (refine⟨_,_,_,_,_,_,_,_,_,_,_,_,_,_,_,_,_,_,_,_,?_,rfl⟩;exact⟨i+1,_,zO,by go_num,rfl,dU.seq bg⟩)
     simp[intOf];omega
    have jc:=zT2 (m<1000);go_wp2_with fail;go_ret;exact⟨⟨_,rfl⟩,aH⟩
   have gJ:=zT2 (i<n);go_wp2_with fail;go_ret;exact⟨⟨_,rfl⟩,aH⟩
def ayD(e:Ending):Prop:=∃b:Bool,e= .returned b
theorem ajb(x:aJ)(elems:List (List Nm))(cs:List Value)(w:World)(F:Nat->Prop)(eA:Option Addr)(en ec:Nat)(hr:au w F (aZ x) cs)(he:bM w (· <w) 1 (elems.map nU) eA en)(jR:en<6000000000000):
 Cl 11 #[.agg cs.toArray,(eA,en,ec)] w λe w'=>ayD e/\Bw w w':=by
 have bH:=au.here _ _ (jK _) hr;obtain⟨k,mn,mx,el,ck,ns,nl,sp,A1,n1,c1,A2,n2,c2,pr,A,n,c,rfl,-⟩:=aW bH;obtain⟨w1,bI,S1,nC,ai⟩:=zP1 w k mn mx el ck ns nl sp A1 n1 c1 A2 n2 c2 pr A n c;obtain⟨jG,aQ,HE⟩:=zJ3 bH S1 he;clear hr bH S1 he;go_enter func11,ntmps11;go_wp2_with fail;have nK:=zH ai
 go_loopw [6,5] (λsi s5 wr=>∃(i:Nat) (m:Int),i<=en/\si= i/\s5= m/\Bw w1 wr)
  (λsi _ _=>en - (intOf si).toNat)
 case atStart=>exact⟨0,_,zO,rfl,rfl,j9 _ _⟩
 obtain⟨i,m,hi,rfl,rfl,dU⟩:=hrel;have aH:=ai.seq dU;by_cases aN:i<en
 ·have gJ:=zT1 (i<en);obtain⟨ob,off,xl,Ax,nx,cx,HX,hxn,aI,GI,dO⟩:=(HE.below aH).Uk aN ec;have HBR:=zH dU;obtain⟨wo,X3⟩:=zE wr;subst X3;go_wp2_with fail
  go_loopw [7,5] (λsk s5 wr=>∃(k:Nat) (m:Int),k<=nx/\sk= k/\s5= m/\Bw wo wr)
   (λsk _ _=>nx - (intOf sk).toNat)
  case atStart=>exact⟨0,_,zO,rfl,rfl,j9 _ _⟩
  obtain⟨k,m,hk,rfl,rfl,jB⟩:=hrel;have GI:=(ZS (jB.block ob (j8 wo _ GI))).trans GI;by_cases Dt:k<nx
  ·have jc:=zT1 (k<nx);by_cases h60:k<60
   ·have sZ:=zT1 ((k:Int)<60);obtain⟨b2,ahT,y1,y2,HY,p0,p1,hiy⟩:=(aI.below (jB.mono aH.size)).name Dt cx;go_wp2_with fail
    go_quiet (fail)
    go_wp2_with fail;go_roundw
    case rel=>
     first
      | exact⟨k+1,_,zO,by go_num,rfl,jB.drewN _⟩
      | (refine⟨_,_,_,_,_,_,_,_,_,_,_,_,_,_,_,_,_,_,_,_,?_,rfl⟩;exact⟨k+1,_,zO,by go_num,rfl,jB.drewN _⟩)
    simp[intOf];omega
   have sZ:=zT2 ((k:Int)<60);go_wp2_with fail;go_roundw
   case rel=>exact⟨i+1,_,zO,by go_num,rfl,HBR.seq jB⟩
   simp[intOf];omega
  have jc:=zT2 (k<nx);go_wp2_with fail;go_roundw
  case rel=>exact⟨i+1,_,zO,by go_num,rfl,HBR.seq jB⟩
  simp[intOf];omega
 have gJ:=zT2 (i<en);have HP:=zH (aja 14 zD x _ wr _ (jG.below aH));have q0:=aj (ae aQ dU);have nG:=zH aH;clear aH dU
 go_wp2_with (go_at_call 22;refine HP.mono ?_;rintro e w5 ⟨⟨k5,rfl⟩,bg⟩
              have HD5:=zH (nG.seq bg)
              clear bg)
 all_goals
  go_ret;exact⟨⟨_,rfl⟩,HD5⟩
theorem aFS(p:aJ)(cs:List Value)(w:World)(F:Nat->Prop)(h:au w F (aZ p) cs):Cl 32 #[.agg cs.toArray] w λe w'=>ayD e/\Bw w w':=by
 have bH:=au.here _ _ (jK _) h;obtain⟨k,mn,mx,el,ck,ns,nl,sp,A1,n1,c1,A2,n2,c2,pr,A0,n0,c0,rfl,-⟩:=aW bH;obtain⟨w1,bI,S1,nC,ai⟩:=zP1 w k mn mx el ck ns nl sp A1 n1 c1 A2 n2 c2 pr A0 n0 c0;have q0:=aj S1;obtain⟨pv,oC⟩:=zF (dC p);have aLT:Hid (∀W,Bw w W->Rt 16 #[.agg (o5 k mn mx el ck ns nl sp A1 n1 c1 A2 n2 c2 pr A0 n0 c0)] W pv):=zH λW hb=>(by rw[<-oC];exact aa4 p _ W _ (bH.below hb));have aQ:=zH S1;clear h bH S1 oC;obtain⟨b0,jV⟩:=zF (decide (k=5));obtain⟨b1,gJ⟩:=zF (decide ((3:Int)<(n0:Int)));obtain⟨b2,jc⟩:=zF (decide ((n0:Int)<=6));obtain⟨b3,sZ⟩:=zF (decide ((40:Int)<pv));obtain⟨b4,Ef⟩:=zF (decide (pv<=200));have aTx:(k==5)=b0:=(by rw[<-jV];rfl);go_enter func32,ntmps32;cases b0<;>cases b1<;>cases b2
 all_goals
  go_wp2_with fail
  first
   | (go_ret
      exact⟨⟨_,rfl⟩,ai⟩)
   | (refine (aLT _ ai).mono ?_
      rintro e w2 ⟨rfl,ag⟩;cases b3
      ·go_wp2_with fail;go_ret;exact⟨⟨_,rfl⟩,ai.seq ag⟩
      clear q0;have q0:=aj (ae aQ ag);go_wp2_with fail;refine (aLT _ (ai.seq ag)).mono ?_;rintro e w3 ⟨rfl,az⟩;go_wp2_with fail;go_ret
      exact⟨⟨_,rfl⟩,ai.seq (ag.seq az)⟩)
