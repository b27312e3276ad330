import Derived.Test.YtgmnnegfndpakaaGreatDoorJ03
set_option maxHeartbeats 20000000
set_option maxRecDepth 100000
namespace Go.Proofs.YtgmnnegfndpakaaGreatDoor
open Go.RowKit Go.Proofs.Tryz
section
variable {elems:List (List Nm)} {p:aJ}
theorem aza(h:(DJ p elems).2=0):kN elems p=0/\∃sets rows,oU (xX (eU elems p) (mZ elems [p])) (mZ elems [p]).size 1001 0 [[0]] []=some (sets,rows)/\
 (DJ p elems).1=TM (mZ elems [p]) (λs=>EX s (aao (eU elems p))) (qA (eU elems p)) sets rows:=by
 unfold DJ at h ⊢
 split at h
 ·rename_i hc;exact absurd h hc
 rename_i hc;rw[j5 hc]
 cases hm:oU (xX (eU elems p) (mZ elems [p])) (mZ elems [p]).size 1001 0 [[0]] [] with
 | none=>rw[hm] at h;cases h
 | some r=>exact⟨Decidable.of_not_not hc,r.1,r.2,rfl,rfl⟩
theorem ar4{sets:List (List Nat)}{rows:List (List Int)}(h:oU (xX (eU elems p) (mZ elems [p])) (mZ elems [p]).size 1001 0 [[0]] []=some (sets,rows)):sets[0]?=some [0]:=by
 obtain⟨more,h1,-⟩:=(aiu (P:=λ_=>True) (λ_ _=>trivial) h).1.pre;have h2:sets=[[0]]++more:=h1;rw[h2];rfl
end
structure KG where
 word:List (List Nm)
 seen:List Bool
 list:List Nat
def azJ(st:Nat->Nm)(s:Nat)(d:KG)(x:Nat)(tt:Int):KG:=
 if 0<=tt/\(d.seen[tt.toNat]?).getD true=false then ⟨d.word.set tt.toNat ((d.word[s]?).getD []++[st x]),d.seen.set tt.toNat true,d.list++[tt.toNat]⟩ else d
def aFf(st:Nat->Nm)(s:Nat):List Int->Nat->KG->KG
 | [],_,d=>d
 | tt::l,x,d=>aFf st s l (x+1) (azJ st s d x tt)
def as5(a:Aut)(st:Nat->Nm):Nat->Nat->KG->List (Nat×List Nm)
 | 0,_,_=>[]
 | f+1,k,d=>match d.list[k]? with
   | none=>[]
   | some s=>(s,(d.word[s]?).getD [])::as5 a st f (k+1) (aFf st s ((a.steps[s]?).getD []) 0 d)
def aFa(n:Nat):KG:=⟨List.replicate n [],(List.replicate n false).set 0 true,[0]⟩
def azV(a:Aut):List (Nat×List Nm):=as5 a (iJ ⟨a.names,a.spaces⟩) (a.final.length+1) 0 (aFa a.final.length)
structure aS4 where
 a:Int
 b:Int
 word:List Nm
 name:Nm
def aqg:ByteArray:=⟨#[]⟩
def lkP(L:List (Nat×aJ))(i:Nat):Option aJ:=(L.find? λx=>decide (x.1=i)).map (·.2)
theorem akG(x:Nat×aJ)(L:List (Nat×aJ))(i:Nat):lkP (x::L) i=if x.1=i then some x.2 else lkP L i:=by
 unfold lkP;rw[List.find?_cons];by_cases h:x.1=i
 ·rw[j6 h,decide_eq_true h];rfl
 rw[j5 h,decide_eq_false h]
theorem aRA{L:List (Nat×aJ)}{i:Nat}{q:aJ}(h:lkP L i=q):(i,q)∈L:=by
 induction L with
 | nil=>cases h
 | cons x L ih=>
   rw[akG] at h;by_cases e:x.1=i
   ·rw[j6 e] at h;obtain rfl:=zI h;subst e;exact List.mem_cons_self ..
   rw[j5 e] at h;exact Zb _ (ih h)
theorem aGs{L:List (Nat×aJ)}{n:Nat}(hn:∀x∈L,x.1≠n)(p:aJ)(i:Nat):lkP (L++[(n,p)]) i=if n=i then some p else lkP L i:=by
 induction L with
 | nil=>rw[d6,akG]
 | cons x L ih=>
   rw[m7,akG,akG,ih λy hy=>hn y (Zb _ hy)];by_cases e:x.1=i
   ·rw[j6 e,j6 e,j5 λe2=>hn x (List.mem_cons_self ..) (e.trans e2.symm)]
   rw[j5 e,j5 e]
theorem aNB{k mn mx el:Int}{c:aT}{pr:Int}{args:List aJ}(h:fD k=true->args=[])(num:Nat):aaj (.mk k mn mx el c pr args) num=(if fD k=true then [(num,.mk k mn mx el c pr args)] else [])++aaH args (num+1):=by
 rw[aaj];by_cases hk:fD k=true
 ·rw[j6 hk,j6 hk,h hk,aaH,m8]
 rw[j5 hk,j5 hk,d6]
mutual
theorem aAX:∀(p:aJ) (num:Nat),∀x∈aaj p num,num<=x.1/\x.1<num+dh p
 | .mk k mn mx el c pr args,num,x,hx=>by
   rw[aaj] at hx;rw[dh]
   split at hx
   ·rw[og] at hx;subst hx;exact⟨zR _,by show num<_;omega⟩
   have:=apo args (num+1) x hx;omega
theorem apo:∀(l:List aJ) (num:Nat),∀x∈aaH l num,num<=x.1/\x.1<num+dZ l
 | [],_,x,hx=>by rw[aaH] at hx;cases hx
 | p::l,num,x,hx=>by
   rw[aaH] at hx;rw[dZ]
   rcases z12.1 hx with h | h
   ·have:=aAX p num x h;omega
   have:=apo l (num+dh p) x h;omega
end
def apU(elems:List (List Nm))(L:List (Nat×aJ))(n:Nm)(i:Nat):Bool:=match lkP L i with
 | some q=>Gf elems q n
 | none=>false
def ack(elems:List (List Nm))(L:List (Nat×aJ))(l:List Nat)(n:Nm):List Nat:=l.filter (apU elems L n)
def Aut.alp(a:Aut):zZ:=⟨a.names,a.spaces⟩
structure UqR where
 is:Bool
 a:Nat
 b:Nat
 word:List Nm
 name:Nm
 e:Int
def aFg:Nm:=(aqg,aqg)
def acr(elems:List (List Nm))(L:List (Nat×aJ))(a:zZ)(l:List Nat):List Nat->Option (Nat×Nat×Nm)
 | []=>none
 | x::xs=>match ack elems L l (iJ a x) with
   | i::j::_=>some (i,j,iJ a x)
   | _=>acr elems L a l xs
noncomputable def gp(p:aJ)(elems:List (List Nm))(L:List (Nat×aJ))(a:zZ):List (Nat×List Nm)->UqR
 | []=>⟨true,0,0,[],aFg,0⟩
 | w::ws=>if (TG p elems w.2).2.2=4 then gp p elems L a ws
   else if (TG p elems w.2).2.2≠0 then ⟨false,0,0,[],aFg,(TG p elems w.2).2.2⟩
   else match acr elems L a (TG p elems w.2).1 (List.range a.size) with
    | some c=>⟨false,c.1,c.2.1,w.2,c.2.2,0⟩
    | none=>gp p elems L a ws
noncomputable def aaV(p:aJ)(elems:List (List Nm)):UqR:=if (DJ p elems).2≠0 then ⟨false,0,0,[],aFg,(DJ p elems).2⟩
 else gp p elems (aaj p 0) (DJ p elems).1.alp (azV (DJ p elems).1)
theorem arZ{w:World}{g:Nat}{t:TypeId}{fr:Nat×Nat}{v0 v1 v2 v3:Value}(h:w.heap[g]?=some (.cells #[v0,v1,v2,v3] t fr)):w.cell? g=v0/\w.cell? (g,1)=v1/\w.cell? (g,2)=v2/\w.cell? (g,3)=v3:=by
 refine⟨?_,?_,?_,?_⟩<;>rw[Ys w g _ _ _ _ h]<;>rfl
theorem aNh(d:Nat):Utf8.encode (48+((d % 10:Nat):Int))=⟨#[UInt8.ofNat (48+d % 10)]⟩:=by
 have h:d % 10<10:=Nat.mod_lt _ zO;generalize d % 10=x at h;have:∀x:Fin 10,Utf8.encode (48+((x.1:Nat):Int))=⟨#[UInt8.ofNat (48+x.1)]⟩:=zD;exact this ⟨x,h⟩
theorem aRb(a b:ByteArray):(a++b).extract 0 a.size=a:=ByteArray.extract_append_eq_left rfl
theorem aRd(a b:ByteArray):(a++b).extract a.size (a++b).size=b:=ByteArray.extract_append_eq_right rfl ByteArray.size_append
theorem aGe(P:Program)(t:TypeId)(h:P.underlying t=some .string)(a b:ByteArray)(W:World):(Instr.slice t (a++b:ByteArray) none (some a.size) none).run P W= .ok a W:=by
 rw[run_slice_string_to_if _ _ _ _ _ h,j6 ⟨zO,by rw[ByteArray.size_append];omega⟩,Int.toNat_natCast,aRb]
theorem aGf(P:Program)(t:TypeId)(h:P.underlying t=some .string)(a b:ByteArray)(W:World):(Instr.slice t (a++b:ByteArray) (some a.size) none none).run P W= .ok b W:=by
 rw[run_slice_string_from_if _ _ _ _ _ h,j6 ⟨zO,by rw[ByteArray.size_append];omega⟩,Int.toNat_natCast,aRd]
theorem aFP:∀(k n:Nat),n<10 ^ k->(pG n).length<=k
 | 0,n,h=>by
   have:n=0:=(by simpa using h);subst this;simp[pG]
 | k+1,n,h=>by
   by_cases h0:n=0
   ·subst h0;simp[pG]
   rw[Ho zO,z5];have:=aFP k (n / 10) (by rw[Nat.pow_succ] at h;omega);simp;omega
theorem aAI{n:Nat}(h:n<1000000000):(pG n).length<=9:=aFP 9 n zO
theorem azm{p:Prop} (h:p:=by
 obtain⟨i,hi,rfl,rfl,dU⟩:=hrel;obtain⟨v,hv⟩:=zF (tk i);have HV:=zH hv;have HC:=zH (vJ i hi wr dU);rw[hv] at HC;clear hv;cases v
 ·go_wp2_with fail;refine HC.mono ?_;rintro e w3 ⟨rfl,az⟩;have aX:=dU.trans (az.mono dU.size)
  have he:Hid (i=I):=zH (by
   rcases i8 i I with h | h
   ·have:=HI.2 i h;rw[HV.out] at this;cases this
   omega)
  go_wp2_with fail;go_ret;exact⟨by rw[<-he.out];rfl,aX⟩
 go_wp2_with fail;refine HC.mono ?_;rintro e w3 ⟨rfl,az⟩;have aX:=dU.trans (az.mono dU.size)
 have he:i<I:=by
  rcases i8 i I with h | h
  ·exact h
  have e:i=I:=zO;have:=HI.1;rw[<-e,HV.out] at this;cases this
 go_wp2_with fail;have HB4:=zH aX;clear aX az dU
 go_loopw [5,7] (λs5 s7 wd=>∃(d:Nat) (r:List UInt8),d<=i+1/\s5= (pre++⟨r.toArray⟩:ByteArray)/\s7= d/\Hid (pG (i+1)=pG d++r)/\Bw w3 wd)
  (λ_ s7 _=>(intOf s7).toNat)
 case atStart=>
  refine⟨i+1,[],zR _,?_,by go_num,zH (by rw[m8]),j9 _ _⟩;rw[show pre++(⟨([]:List UInt8).toArray⟩:ByteArray)=pre from ByteArray.append_empty]
 obtain⟨d,r,hd,rfl,rfl,HT,bP⟩:=hrel;by_cases h0:0<d
 ·have jV:=zT1 (0<d)
  have AU:r.length<=9:=by
   have h1:=aAI (n:=i+1) zO;rw[HT.out,z5] at h1;omega
  have bY:(pre++⟨r.toArray⟩:ByteArray).size=pre.size+r.length:=(by rw[ByteArray.size_append];rfl)
  have fC:Hid (pG (i+1)=pG (d / 10)++(UInt8.ofNat (48+d % 10)::r)):=zH (by
   rw[HT.out,Ho h0,d7];rfl)
  have JR:=zH bY;have JZ:(d:Int).tmod 10=((d % 10:Nat):Int):=rfl;have amk:d % 10<10:=Nat.mod_lt _ zO;have bI:IntKind.i64.wrap (48+(d:Int).tmod 10)=48+(d:Int).tmod 10:=(by rw[JZ,IntKind.wrap_i64];omega);have mJ:IntKind.i32.wrap (48+(d:Int).tmod 10)=48+(d:Int).tmod 10:=(by rw[JZ];rw[IntKind.wrap_i32];omega);have hf:∀W,(Instr.slice 9 (pre++⟨r.toArray⟩:ByteArray) none (some pre.size) none).run prog W= .ok pre W:=aGe _ _ zK _ _;have hk:∀W,(Instr.slice 9 (pre++⟨r.toArray⟩:ByteArray) (some pre.size) none none).run prog W= .ok (.string ⟨r.toArray⟩) W:=aGf _ _ zK _ _;obtain⟨eb,heb⟩:=zF ((⟨#[UInt8.ofNat (48+d % 10)]⟩:ByteArray));have jR:Utf8.encode (48+(d:Int).tmod 10)=eb:=(by rw[JZ,<-heb];exact aNh d);have hes:eb.size=1:=(by rw[<-heb];rfl);have CB:∀W,(Op.stringOp .add pre eb).run prog W= .ok (pre++eb:ByteArray) W:=λW=>run_string_add_sum W _ _ zO;have BJ:∀W,(Op.stringOp .add (pre++eb) ⟨r.toArray⟩).run prog W= .ok (pre++eb++⟨r.toArray⟩:ByteArray) W:=λW=>run_string_add_sum W _ _ (by rw[ByteArray.size_append];have:(⟨r.toArray⟩:ByteArray).size=r.length:=rfl;omega);have HEB:=zH heb;have aUC:eb.size<2:=zO;clear heb hes;clear bY JZ;go_upto_region 9 with fail
  go_quiet (fail)
  go_wp2_with fail;go_roundw
  case rel=>
   refine⟨d / 10,UInt8.ofNat (48+d % 10)::r,zO,?_,by go_num,fC,bP.drewN _⟩;rw[<-HEB.out,ByteArray.append_assoc];rfl
  simp[intOf];omega
 obtain rfl:d=0:=zO;have jV:decide ((0:Nat)<0)=false:=rfl;go_wp2_with fail;go_roundw
 case rel=>exact⟨i+1,zO,by rw[dL,HT.out];rfl,by go_num,HB4.trans (bP.mono HB4.size)⟩
 simp[intOf];omega):p:=h
theorem aNg(g1 g2:Nat)(pre:ByteArray)(tk:Nat->Bool)(I:Nat)(hI:tk I=false/\∀i,i<I->tk i=true)(hb:I<1000000)(hp:pre.size<1000000000)(w:World)
 (eH:∀k,k<=I->∀W:World,Bw w W->Rt 153 #[.string (dL pre k),(g1,0),(g2,0)] W (.bool (tk k))):
 Rt 152 #[pre,.func (.func 153) #[] #[(g1,0),(g2,0)]] w (dL pre I):=by
 obtain⟨HI,vJ⟩:=zJ2 hI eH;clear hI eH;go_enter func152,ntmps152;go_wp2_with fail
 go_loopw [5,6] (λs5 s6 wr=>∃i:Nat,i<=I/\s5= (dL pre i)/\s6= ((i:Int)+1:Int)/\Bw w wr)
  (λ_ s6 _=>I+1 - (intOf s6).toNat)
 case atStart=>exact⟨0,zO,by rw[Rw],by go_num,j9 _ _⟩
 exact azm
theorem ayX(g1:Nat)(pre:ByteArray)(tk:Nat->Bool)(I:Nat)(hI:tk I=false/\∀i,i<I->tk i=true)(hb:I<1000000)(hp:pre.size<1000000000)(w:World)
 (eH:∀k,k<=I->∀W:World,Bw w W->Rt 154 #[.string (dL pre k),(g1,0)] W (.bool (tk k))):
 Rt 152 #[pre,.func (.func 154) #[] #[(g1,0)]] w (dL pre I):=by
 obtain⟨HI,vJ⟩:=zJ2 hI eH;clear hI eH;go_enter func152,ntmps152;go_wp2_with fail
 go_loopw [5,6] (λs5 s6 wr=>∃i:Nat,i<=I/\s5= (dL pre i)/\s6= ((i:Int)+1:Int)/\Bw w wr)
  (λ_ s6 _=>I+1 - (intOf s6).toNat)
 case atStart=>exact⟨0,zO,by rw[Rw],by go_num,j9 _ _⟩
 exact azm
def al3(w:World)(ba:Nat)(a:zZ)(nA:Option Addr)(nn nc:Nat)(sA:Option Addr)(sn sc:Nat)(fA:Option Addr)(fn fc:Nat)(tA:Option Addr)(tn tc:Nat):Prop:=
 w.heap[ba]?=Zc #[(nA,nn,nc),(sA,sn,sc),(fA,fn,fc),(tA,tn,tc)] 51/\aY w (· <w) 2 dK a.names nA nn/\aY w (· <w) 1 mG a.spaces sA sn/\nn<1000000/\sn<1000000
theorem al3.below{w w':World}{ba:Nat}{a:zZ}{nA:Option Addr}{nn nc:Nat}{sA:Option Addr}{sn sc:Nat}{fA:Option Addr}{fn fc:Nat}{tA:Option Addr}{tn tc:Nat}(h:al3 w ba a nA nn nc sA sn sc fA fn fc tA tn tc)(hb:Bw w w'):al3 w' ba a nA nn nc sA sn sc fA fn fc tA tn tc:=by
 obtain⟨h1,h2,h3,h4,h5⟩:=h;have hs:=hb.size;exact⟨ae h1 hb,(h2.below hb).imp λb (h:b<w)=>by omega,(h3.below hb).imp λb (h:b<w)=>by omega,h4,h5⟩
theorem aGv(a:zZ)(s:ByteArray)(ba:Nat)(nA:Option Addr)(nn nc:Nat)(sA:Option Addr)(sn sc:Nat)(fA:Option Addr)(fn fc:Nat)(tA:Option Addr)(tn tc:Nat)(w:World)(h:al3 w ba a nA nn nc sA sn sc fA fn fc tA tn tc):
 Rt 154 #[s,(ba,0)] w (a.spaces.any λx=>eqS s x:Bool):=by
 obtain⟨h1,h2,h3,h4,h5⟩:=h;obtain⟨v,hv⟩:=zF ((a.spaces.any λx=>eqS s x));have HC:=zH (ad2 s a.spaces sA sn sc w _ h3 zO);rw[hv] at HC ⊢;obtain⟨d0,d1,d2,d3⟩:=arZ h1;clear h1 h2 h3 hv;go_enter func154,ntmps154;go_wp2_with fail;refine HC.mono ?_;rintro e w2 ⟨rfl,ag⟩;go_wp2_with fail;go_ret;exact⟨rfl,ag⟩
theorem aGw(a:zZ)(s x:ByteArray)(ba g2:Nat)(nA:Option Addr)(nn nc:Nat)(sA:Option Addr)(sn sc:Nat)(fA:Option Addr)(fn fc:Nat)(tA:Option Addr)(tn tc:Nat)(w:World)(h:al3 w ba a nA nn nc sA sn sc fA fn fc tA tn tc)(qo:w.heap[g2]?=Zc #[s] 9):
 Rt 153 #[x,(ba,0),(g2,0)] w (ru a.names s x):=by
 obtain⟨h1,h2,h3,h4,h5⟩:=h;obtain⟨v,hv⟩:=zF (ru a.names s x);have HC:=zH (J7 s x a.names nA nn nc w _ h2 zO);rw[hv] at HC ⊢;have c1:=aO qo;obtain⟨d0,d1,d2,d3⟩:=arZ h1;clear h1 h2 h3 qo hv;go_enter func153,ntmps153;go_wp2_with fail;refine HC.mono ?_;rintro e w2 ⟨rfl,ag⟩;go_wp2_with fail;go_ret;exact⟨rfl,ag⟩
theorem aGu(a:zZ)(x:Nat)(nA:Option Addr)(nn nc:Nat)(sA:Option Addr)(sn sc:Nat)(fA:Option Addr)(fn fc:Nat)(tA:Option Addr)(tn tc:Nat)(w:World)(hN:aY w (· <w) 2 dK a.names nA nn)(hS:aY w (· <w) 1 mG a.spaces sA sn)(yB:nn<1000000)(qY:sn<1000000)(hx:x<nn):
 Rt 89 #[.agg #[(nA,nn,nc),(sA,sn,sc),(fA,fn,fc),(tA,tn,tc)],((x:Int))] w (.agg #[(iJ a (x)).1,(iJ a (x)).2]):=by
 obtain⟨w1,bI,S1,S2,nC,ai⟩:=ed w (Zc #[(nA,nn,nc),(sA,sn,sc),(fA,fn,fc),(tA,tn,tc)] 51) (Zc #[.string ⟨#[]⟩,.string ⟨#[]⟩] 23);have HA:Hid (al3 w1 w a nA nn nc sA sn sc fA fn fc tA tn tc):=zH ⟨S1,hN.keepW ai,hS.keepW ai,yB,qY⟩;obtain⟨b',off,x1,x2,HX,p0,p1,dO⟩:=HA.2.1.name hx nc;have sV:=zH (anQ HX);obtain⟨d0,d1,d2,d3⟩:=arZ S1;have gY:=zH S2;have gJ:=zT1 (x<nn);have f0:=zF2 w1 (w.heap.size+1) S2;have e0:=dw S2;clear S1 S2 hN hS;go_enter func89,ntmps89;go_wp2_with fail;have SF:=Fb (v:=x2) (Fa (v:=x1) gY);obtain⟨z0,z1⟩:=dw SF;clear SF;refine Qg (v:=.agg #[x1,x2]) (by simp[results,results89,go_sem,z0,z1]) rfl ?_;exact⟨by rw[sV.out],(ai.setCell (p:=⟨w.heap.size+1,0,none⟩) (Nat.le_add_right _ _) _).setCell (p:=⟨w.heap.size+1,1,none⟩) (Nat.le_add_right _ _) _⟩
theorem aGB(a:zZ)(x:Nat)(nA:Option Addr)(nn nc:Nat)(sA:Option Addr)(sn sc:Nat)(fA:Option Addr)(fn fc:Nat)(tA:Option Addr)(tn tc:Nat)(w:World)(hN:aY w (· <w) 2 dK a.names nA nn)(hS:aY w (· <w) 1 mG a.spaces sA sn)(yB:nn<1000000)(qY:sn<1000000)(hx:nn+sn<=x)(hxb:x<1000000000):
 Rt 89 #[.agg #[(nA,nn,nc),(sA,sn,sc),(fA,fn,fc),(tA,tn,tc)],((x:Int))] w (.agg #[(iJ a (x)).1,(iJ a (x)).2]):=by
 obtain⟨w1,bI,S1,S2,nC,ai⟩:=ed w (Zc #[(nA,nn,nc),(sA,sn,sc),(fA,fn,fc),(tA,tn,tc)] 51) (Zc #[.string ⟨#[]⟩,.string ⟨#[]⟩] 23);have HA:Hid (al3 w1 w a nA nn nc sA sn sc fA fn fc tA tn tc):=zH ⟨S1,hN.keepW ai,hS.keepW ai,yB,qY⟩;have hP:=UX (afq a.spaces);obtain⟨I,hI⟩:=zF (AZ (λk=>a.spaces.any λz=>eqS (dL EN k) z) a.spaces.length);have bZ:=anS (a:=a) (x:=x) (by have:=hN.1;have:=hS.1;omega);rw[hI] at hP bZ;have hIb:I<1000000:=(by have:=hP.2.2;have:=hS.1;omega);have HF:=zH (ayX w EN (λk=>a.spaces.any λz=>eqS (dL EN k) z) I ⟨hP.1,hP.2.1⟩ hIb zD w1 λk _ W hb=>aGv a (dL EN k) w nA nn nc sA sn sc fA fn fc tA tn tc W (HA.below hb));have sV:=zH bZ;obtain⟨d0,d1,d2,d3⟩:=arZ S1;have gY:=zH S2;have gJ:=zT2 (x<nn);have jc:=zT2 ((x:Int)<(nn:Int)+(sn:Int));clear hN hS bZ hP S1 S2 hI;go_enter func89,ntmps89;go_wp2_with fail;refine HF.mono ?_;rintro e w2 ⟨rfl,ag⟩;have S3:=ae gY ag;have f0:=zF2 w2 (w.heap.size+1) S3;have e0:=dw S3;have vC:=zH S3;clear S3;go_wp2_with fail;have SF:=Fb (v:=.string ⟨#[120]⟩) (Fa (v:=(dL EN I)) vC);obtain⟨z0,z1⟩:=dw SF;clear SF;refine Qg (v:=.agg #[(dL EN I),.string ⟨#[120]⟩]) (by simp[results,results89,go_sem,z0,z1]) rfl ?_;exact⟨by rw[sV.out];rfl,((ai.seq ag).setCell (p:=⟨w.heap.size+1,0,none⟩) (Nat.le_add_right _ _) _).setCell (p:=⟨w.heap.size+1,1,none⟩) (Nat.le_add_right _ _) _⟩
theorem aKa(a:zZ)(x:Nat)(nA:Option Addr)(nn nc:Nat)(sA:Option Addr)(sn sc:Nat)(fA:Option Addr)(fn fc:Nat)(tA:Option Addr)(tn tc:Nat)(w:World)(hN:aY w (· <w) 2 dK a.names nA nn)(hS:aY w (· <w) 1 mG a.spaces sA sn)(yB:nn<1000000)(qY:sn<1000000)(hy:x<sn):
 Rt 89 #[.agg #[(nA,nn,nc),(sA,sn,sc),(fA,fn,fc),(tA,tn,tc)],((nn:Int)+(x:Int):Int)] w (.agg #[(iJ a (nn+x)).1,(iJ a (nn+x)).2]):=by
 obtain⟨w1,bI,S1,S2,nC,ai⟩:=ed w (Zc #[(nA,nn,nc),(sA,sn,sc),(fA,fn,fc),(tA,tn,tc)] 51) (Zc #[.string ⟨#[]⟩,.string ⟨#[]⟩] 23);have HA:Hid (al3 w1 w a nA nn nc sA sn sc fA fn fc tA tn tc):=zH ⟨S1,hN.keepW ai,hS.keepW ai,yB,qY⟩;obtain⟨b',off,s,HX,p0,dO⟩:=HA.2.2.1.str hy sc;obtain⟨w2,mJ,S3,uS,ag⟩:=af w1 (Zc #[s] 9);have qZ:=zH (HA.below ag);have hP:=UX (afp a.names s);obtain⟨I,hI⟩:=zF (AZ (λk=>ru a.names s (dL xB k)) a.names.length);have bZ:=anR (a:=a) HX;have hnl:nn=a.names.length:=hN.1;rw[hI] at hP bZ;rw[<-hnl] at bZ;have hIb:I<1000000:=(by have:=hP.2.2;omega);have qo:=S3;have HF:=zH (λ(W:World) (mV:Bw w2 W)=>aNg w w1 xB (λk=>ru a.names s (dL xB k)) I ⟨hP.1,hP.2.1⟩ hIb zD W λk _ W' hb=>aGw a s (dL xB k) w w1 nA nn nc sA sn sc fA fn fc tA tn tc W' ((qZ.below mV).below hb) (ae (ae qo mV) hb));have sV:=zH bZ;obtain⟨d0,d1,d2,d3⟩:=arZ S1;have c5:=aO qo;have gY:=zH (ae S2 ag);have gJ:=zT2 ((nn:Int)+(x:Int)<(nn:Int));have jc:=zT1 ((nn:Int)+(x:Int)<(nn:Int)+(sn:Int));have auz:∀W,(Instr.indexAt 47 (sA,sn,sc) ((nn:Int)+(x:Int) - (nn:Int):Int)).run prog W= .ok (b',off+x) W:=λW=>(by rw[show (nn:Int)+(x:Int) - (nn:Int)=(x:Int) by omega];exact dO W);clear hN hS bZ hP qo S1 S2 S3 hI hnl;go_enter func89,ntmps89;go_wp2_with fail
 go_region_with
  (first | (go_at_call 152;refine (HF _ (by first | exact j9 _ _ | exact(j9 _ _).drewN _ | exact(j9 _ _).drew)).mono ?_
            rintro e w3 ⟨rfl,az⟩;have BD:Bw w2 w3:=⟨az.os,az.tape,az.output,az.size,az.block⟩;have S3:=ae gY BD;have f0:=zF2 w3 (w.heap.size+1) S3;have e0:=dw S3;have c6:w3.cell? w1=s:=(BD.cell (j8 w2 _ c5)).trans c5;obtain⟨vC,anT⟩:=zJ2 S3 BD
            clear S3 BD))
 all_goals
  go_wp2_with fail;have SF:=Fb (v:=(dL xB I)) (Fa (v:=s) vC);obtain⟨z0,z1⟩:=dw SF;clear SF;refine Qg (v:=.agg #[s,(dL xB I)]) (by simp[results,results89,go_sem,z0,z1]) rfl ?_;have dY:Bw w w3:=(ai.seq ag).seq anT;exact⟨by rw[sV.out],(dY.setCell (p:=⟨w.heap.size+1,0,none⟩) (Nat.le_add_right _ _) _).setCell (p:=⟨w.heap.size+1,1,none⟩) (Nat.le_add_right _ _) _⟩
theorem aRH(a:zZ)(x:Nat)(nA:Option Addr)(nn nc:Nat)(sA:Option Addr)(sn sc:Nat)(fA:Option Addr)(fn fc:Nat)(tA:Option Addr)(tn tc:Nat)(w:World)(hN:aY w (· <w) 2 dK a.names nA nn)(hS:aY w (· <w) 1 mG a.spaces sA sn)(yB:nn<1000000)(qY:sn<1000000)(hxb:x<1000000000):
 Rt 89 #[.agg #[(nA,nn,nc),(sA,sn,sc),(fA,fn,fc),(tA,tn,tc)],x] w (.agg #[(iJ a x).1,(iJ a x).2]):=by
 by_cases h1:x<nn
 ·exact aGu a x nA nn nc sA sn sc fA fn fc tA tn tc w hN hS yB qY h1
 by_cases h2:x<nn+sn
 ·obtain⟨y,rfl⟩:∃y,x=nn+y:=⟨x - nn,zO⟩;exact(show ((nn+y:Nat):Int)=(nn:Int)+(y:Int) by omega) ▸ aKa a y nA nn nc sA sn sc fA fn fc tA tn tc w hN hS yB qY zO
 exact aGB a x nA nn nc sA sn sc fA fn fc tA tn tc w hN hS yB qY zO hxb
theorem ax.azl{W:World}{base:Nat}{l:List Nat}{A:Option Addr}{n c:Nat}(h:ax W base 3 1 aV l (A,n,c)):n=l.length/\aY W (· <W) 1 aV l A n:=by
 obtain⟨A',c',e,hr,-,-⟩:=h.row jd zD;obtain⟨rfl,rfl,rfl⟩:=z19 e;exact⟨rfl,hr.imp λ_ h=>h.2⟩
