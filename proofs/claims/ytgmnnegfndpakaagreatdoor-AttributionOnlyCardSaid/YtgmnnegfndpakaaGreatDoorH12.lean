import Derived.Test.YtgmnnegfndpakaaGreatDoorH11
import Derived.Carry
set_option maxHeartbeats 20000000
set_option maxRecDepth 100000
namespace Go.Proofs.YtgmnnegfndpakaaGreatDoor
open Go.RowKit Go.Proofs.Tryz
variable{n k mn mx:Int}{p:aJ}{l:List aJ}{L:List LI->Prop}{gm b2 b4 g i:Nat}{κ β α:Type}{P:Program}{ops:Array Oper}{rest:List Oper}{o:Oper}{a:Act}{Q:Exit->Act->World->Prop}{w:World}{kt et:TypeId}{enc:κ->Value}{val:β->Value}{eq:κ->κ->Bool}
noncomputable def Hr(elems:List (List Nm))(p:aJ):Bool:=
 if p.kind=1 then decide (0<(elemAt elems p.el).length)
 else !(IK (jF p.cls) (!(TF (ahc 0 p.cls p.cls) (jP [p.cls,p.cls] ([],[])))))&&decide (jF p.cls=0)
def QI(t s:Nat):List (Nat×List Nat)->List (Nat×List Nat)
 | []=>[(t,[s])]
 | (t',l)::r=>if t=t' then (t',l++[s])::r else (t',l)::QI t s r
def fZ(t:Nat):List (Nat×List Nat)->List Nat
 | []=>[]
 | (t',l)::r=>if t=t' then l else fZ t r
structure CQ where
 list:List Nat
 back:List (Nat×List Nat)
noncomputable def oq(m:eQ)(s:Nat)(st:CQ)(x:Stp):CQ:=
 if Hr m.elems x.leaf then ⟨if x.dst∈st.list then st.list else st.list++[x.dst],QI x.dst s st.back⟩ else st
noncomputable def axL(m:eQ)(s:Nat)(st:CQ):CQ:=(gK m s).foldl (oq m s) st
noncomputable def QJ(m:eQ):Nat->Nat->CQ->CQ
 | 0,_,st=>st
 | f+1,k,st=>match st.list[k]? with
   | some s=>QJ m f (k+1) (axL m s st)
   | none=>st
def lU(st:List Nat×List Nat)(t:Nat):List Nat×List Nat:=if t∈st.1 then st else (st.1++[t],st.2++[t])
def drain(back:List (Nat×List Nat)):Nat->List Nat×List Nat->List Nat×List Nat
 | 0,st=>st
 | f+1,st=>match st.2.getLast? with
   | some s=>drain back f ((fZ s back).foldl lU (st.1,st.2.dropLast))
   | none=>st
def uf(m:eQ):Nat:=m.places.length+1+4 ^ m.all.length
noncomputable def gB(m:eQ):CQ:=QJ m (uf m+1) 0 ⟨[0],[]⟩
noncomputable def aao(m:eQ):List Nat:=
 (drain (gB m).back (uf m+1) ((gB m).list.filter (wH m),(gB m).list.filter (wH m))).1
def EX(set live:List Nat):Bool:=set.any λs=>decide (s∈live)
def qA(m:eQ)(set:List Nat):Bool:=set.any (wH m)
def kN(elems:List (List Nm))(p:aJ):Int:=
 if 60<elems.length\/elems.any badL=true then 2
 else if IG p=true then 3
 else if (bU p.mn p.mx&&bT elems.length true p)=false then 2
 else if p.kind≠5/\200<dC p then 3 else 0
def QK(m:eQ)(live:List Nat):List Nm->Nat->List Nat->Bool×Nat
 | [],i,set=>(qA m set,i)
 | n::w,i,set=>if EX (lZ m set n) live then QK m live w (i+1) (lZ m set n) else (false,i)
noncomputable def Fp(p:aJ)(elems:List (List Nm))(w:List Nm):Bool×Nat×Int:=
 if kN elems p≠0 then (false,0,kN elems p)
 else if 300<w.length then (false,0,3)
 else if w.any oZ then (false,0,2)
 else ((QK (eU elems p) (aao (eU elems p)) w 0 [0]).1,(QK (eU elems p) (aao (eU elems p)) w 0 [0]).2,0)
noncomputable def NF(m:eQ)(live:List Nat)(s:Nat):List Nat:=((gK m s).filter λx=>decide (x.dst∈live)&&Hr m.elems x.leaf).map (·.num)
noncomputable def TG(p:aJ)(elems:List (List Nm))(w:List Nm):List Nat×Bool×Int:=
 if kN elems p≠0 then ([],false,kN elems p)
 else if 300<w.length then ([],false,3)
 else if w.any oZ then ([],false,2)
 else if EX (w.foldl (lZ (eU elems p)) [0]) (aao (eU elems p))=false then ([],false,4)
 else (sset ((w.foldl (lZ (eU elems p)) [0]).flatMap (NF (eU elems p) (aao (eU elems p)))),qA (eU elems p) (w.foldl (lZ (eU elems p)) [0]),0)
theorem CU(h0: -9223372036854775808<=n)(h1:n<=9223372036854775807):wrap64 n=n:=by unfold wrap64;omega
theorem rJ{el:Int}{c:aT}{pr:Int}{args:List aJ}(h:kR (.mk k mn mx el c pr args)=true):
 (0<=mn/\mn<=20/\(mx= -1\/(mn<=mx/\1<=mx/\mx<=20)))/\((fD k=true/\args=[])\/(k=3/\oz args=true)\/(k=4/\args≠[]/\oz args=true)):=by
 rw[kR,z7] at h;obtain⟨h1,h2⟩:=h;constructor
 ·unfold bU at h1;simp only[z7,Bool.or_eq_true,gy] at h1;omega
 simp only[z7,Bool.or_eq_true,gy,List.isEmpty_iff,Bool.not_eq_true'] at h2
 rcases h2 with (h2 | h2) | h2
 ·exact .inl h2
 ·exact .inr (.inl h2)
 refine .inr (.inr ⟨h2.1.1,λe=>?_,h2.2⟩);rw[e] at h2;simp at h2
theorem aap(h:oz (p::l)=true):kR p=true/\oz l=true:=by rw[oz,z7] at h;exact h
def rep(mn mx:Int):Nat:=if mx= -1 then mn.toNat+1 else mx.toNat
theorem Yt(k mn mx el:Int)(c:aT)(pr:Int)(args:List aJ):lJ (.mk k mn mx el c pr args)=((if fD k then 1 else 0)+kF args)*rep mn mx:=by rw[lJ];rfl
def CV:List aJ->Nat
 | []=>0
 | p::l=>min (lJ p) 1000+CV l
theorem afD:∀l:List aJ,CV l<=1000*dZ l
 | []=>by rw[CV];omega
 | p::l=>by rw[CV,dZ];have:=afD l;have:=Eu p;omega
theorem ab7:∀l:List aJ,CV l=kF l\/(1000<=CV l/\1000<=kF l)
 | []=>.inl rfl
 | p::l=>by
   rw[CV,kF];have:=ab7 l;omega
mutual
theorem Au:∀p:aJ,kR p=true->dh p<=40->dC p=(min (lJ p) 1000:Nat)
 | .mk k mn mx el c pr args,hg,hn=>by
   obtain⟨⟨h1,h2,h3⟩,h4⟩:=rJ hg;rw[dh] at hn
   have hl:oz args=true:=by
    rcases h4 with ⟨_,rfl⟩ | ⟨_,h⟩ | ⟨_,_,h⟩
    ·rw[oz]
    ·exact h
    exact h
   have ha:=QL args (if fD k then 1 else 0) hl (by split<;>omega) zO (by split<;>omega);rw[dC,ha,Yt];have hc:=afD args;have Ar:=ab7 args;obtain⟨t,ht⟩:∃t:Nat,rep mn mx=t:=⟨_,rfl⟩;have ht1:1<=t/\t<=21:=(by rw[<-ht];unfold rep;split<;>omega)
   have hti:(if mx= -1 then wrap64 (mn+1) else mx)=(t:Int):=by
    rw[<-ht];unfold rep
    split
    ·rw[CU zO zO];omega
    omega
   rw[hti,ht];obtain⟨z,hz⟩:∃z:Nat,(if fD k=true then 1 else 0)=z:=⟨_,rfl⟩;have xm:z<=1:=(by rw[<-hz];split<;>omega);have hzi:(if fD k=true then (1:Int) else 0)=(z:Int):=(by rw[<-hz];split<;>rfl);rw[hzi,hz];have e:((z:Int)+(CV args:Int))*(t:Int)=(((z+CV args)*t:Nat):Int):=(by push_cast;rfl);rw[e];have hb:(z+CV args)*t<=50000*21:=Nat.mul_le_mul zO ht1.2;rw[CU zO zO]
   rcases Ar with Ar | ⟨GI,Wu⟩
   ·rw[Ar];omega
   have g1:1000*1<=(z+CV args)*t:=Nat.mul_le_mul zO ht1.1;have g2:1000*1<=(z+kF args)*t:=Nat.mul_le_mul zO ht1.1;omega
theorem QL:∀(l:List aJ) (z:Int),oz l=true->0<=z->dZ l<=40->z+1000*dZ l<=50000->oh z l=z+CV l
 | [],z,_,_,_,_=>by rw[oh,CV];simp
 | p::l,z,hg,h0,hn,h1=>by
   obtain⟨g1,g2⟩:=aap hg;rw[dZ] at h1 hn;have hp:=Eu p;have ih:=Au p g1 zO;rw[oh,ih,CU zO zO,QL l _ g2 zO zO zO,CV]
   push_cast
   omega
end
theorem NJ(h:∀w,L w↔w=[]):∀(n:Nat) (w:List LI),qP L n w↔w=[]
 | 0,w=>Iff.rfl
 | n+1,w=>by
   constructor
   ·rintro⟨u,v,rfl,a,b⟩;rw[(h u).1 a,(NJ h n v).1 b];rfl
   rintro rfl;exact⟨[],[],rfl,(h []).2 rfl,(NJ h n []).2 rfl⟩
theorem Vm(h:∀w,L w↔w=[])(h0:0<=mn)(hx:mx= -1\/mn<=mx)(w:List LI):Gg L mn mx w↔w=[]:=by
 constructor
 ·rintro⟨n,_,_,hp⟩;exact(NJ h n w).1 hp
 rintro rfl;exact⟨mn.toNat,zO,zO,(NJ h _ []).2 rfl⟩
theorem Zx:∀p:aJ,kR p=true->lJ p=0->∀(num:Nat) (w:List LI),rW p num w↔w=[]:=by
 intro p
 induction p using aJ.ind with
 | h k mn mx el c pr args ih=>
   intro hg hc num w;obtain⟨⟨h1,h2,h3⟩,h4⟩:=rJ hg;rw[Yt] at hc;have ht:1<=rep mn mx:=(by unfold rep;split<;>omega)
   have hz:(if fD k=true then 1 else 0)+kF args=0:=by
    rcases Nat.mul_eq_zero.1 hc with h | h
    ·exact h
    omega
   have hk:fD k=false:=by
    cases hh:fD k with
    | false=>rfl
    | true=>rw[hh] at hz;simp at hz
   have GM:kF args=0:=zO
   have parts:∀(l:List aJ),oz l=true->kF l=0->(∀q∈l,q∈args)->∀q∈l,∀(num:Nat) (w:List LI),Gg (rW q num) q.mn q.mx w↔w=[]:=by
    intro l
    induction l with
    | nil=>intro _ _ _ q hq;simp at hq
    | cons q0 l ihl=>
      intro hg hc hm q hq num w;obtain⟨g1,g2⟩:=aap hg;rw[kF] at hc
      rcases TT.1 hq with rfl | hq
      ·have hh:=ih q (hm q zP) g1 zO num;obtain⟨k',nI,mx',uo,c',pr',args'⟩:=q;obtain⟨⟨a1,a2,a3⟩,_⟩:=rJ g1;exact Vm hh a1 (a3.imp id (·.1)) w
      exact ihl g2 zO (λq hq=>hm q (by simp[hq])) q hq num w
   rcases h4 with ⟨h,_⟩ | ⟨rfl,LZ⟩ | ⟨rfl,dD,LZ⟩
   ·rw[hk] at h;cases h
   ·rw[rW];simp only[hk,b6,if_false,if_true];have hp:=parts args LZ GM (λq hq=>hq);clear parts ih hg hc hz GM LZ;generalize num+1=num
    induction args generalizing num w with
    | nil=>rw[NG]
    | cons q l ihl=>
      rw[NG,ab6 (hp q zP num) (λw=>ihl w (λq hq=>hp q (by simp[hq])) (num+dh q)) w];exact NH _ w
   rw[rW];simp only[hk,b6,if_false];rw[j5 zD];have hp:=parts args LZ GM (λq hq=>hq);clear parts ih hg hc hz GM LZ;generalize num+1=num
   induction args generalizing num w with
   | nil=>exact absurd rfl dD
   | cons q l ihl=>
     rw[JG];show Gg (rW q num) q.mn q.mx w\/JG l (num+dh q) w↔_;rw[hp q zP num w]
     cases l with
     | nil=>rw[JG];simp
     | cons q2 l2=>
       have e:=ihl w zP (λq hq=>hp q (Zb _ hq)) (num+dh q);exact⟨λh=>h.elim id e.1,λh=>.inl h⟩
theorem Made.never(pl:List aU):Made pl.length pl (pl,⟨[],[],false⟩) (λ_=>False):=by
 refine⟨zR _,λ_ _=>rfl,⟨⟨λi h=>h.2,λi h=>by simp at h,λi h=>by simp at h,λi j h=>by have:pl.length<=i/\i<pl.length:=h;omega⟩,λw=>?_⟩⟩;constructor
 ·rintro (⟨_,h⟩ | ⟨j,_,_,h,_⟩)
  ·cases h
  simp at h
 intro h;exact h.elim
theorem aju(p:aJ)(num:Nat)(pl:List aU):Made pl.length pl (pl++[⟨p,num,[]⟩],⟨[pl.length],[pl.length],false⟩) (λw=>w=[(num,p)]):=by
 have hg:(pl++[⟨p,num,[]⟩]:List aU)[pl.length]?=some ⟨p,num,[]⟩:=zS4;have hl:sG (pl++[⟨p,num,[]⟩]) pl.length=some (num,p):=(by unfold sG;rw[hg];rfl);refine⟨zP,λi hi=>z20 hi,⟨⟨λi h=>h.2,λi h=>?_,λi h=>?_,λi j h hj=>?_⟩,λw=>?_⟩⟩
 ·obtain rfl:i=pl.length:=(by simpa using h);simp
 ·obtain rfl:i=pl.length:=(by simpa using h);simp
 ·have h':pl.length<=i/\i<(pl++[⟨p,num,[]⟩]:List aU).length:=h;rw[z5,TQ] at h';obtain rfl:i=pl.length:=zO;obtain⟨q,h1,h2⟩:=hj;rw[hg] at h1;obtain rfl:=zI h1;simp at h2
 constructor
 ·rintro (⟨_,h⟩ | ⟨j,l,v,h1,h2,rfl,h3⟩)
  ·cases h
  obtain rfl:j=pl.length:=(by simpa using h1);rw[hl] at h2;obtain rfl:=zI h2
  cases h3 with
  | stop _=>rfl
  | go h4 _ _=>
    obtain⟨q,h5,h6⟩:=h4;rw[hg] at h5;obtain rfl:=zI h5;simp at h6
 rintro rfl;exact .inr ⟨pl.length,_,[],zP,hl,rfl,.stop zP⟩
theorem wK:∀p:aJ,kR p=true->dh p<=40->∀num,CS (kL p num) (rW p num):=by
 intro p
 induction p using aJ.ind with
 | h k mn mx el c pr args ih=>
   intro hg hn num pl;obtain⟨_,h4⟩:=rJ hg;rw[dh] at hn
   have parts:∀q∈args,kR q=true->dh q<=40->∀num,CS (rH (kL q num) q.mn q.mx (dC q)) (Gg (rW q num) q.mn q.mx):=by
    intro q hq g n num;have hh:=ih q hq g n num;have hz:=Zx q g;have Az:=Au q g n;obtain⟨k',nI,mx',uo,c',pr',args'⟩:=q;obtain⟨⟨a1,a2,a3⟩,_⟩:=rJ g;refine Uo hh a1 (a3.imp id (·.1)) λh0 w=>Vm (hz ?_ num) a1 (a3.imp id (·.1)) w;rw[h0] at Az;omega
   rw[kL,rW];by_cases hk:fD k=true
   ·rw[j6 hk];refine (aju _ num pl).wJ λw=>?_;rw[j6 hk]
   rw[j5 hk]
   rcases h4 with ⟨h,_⟩ | ⟨rfl,LZ⟩ | ⟨rfl,dD,LZ⟩
   ·exact absurd h hk
   ·have key:∀(l:List aJ) (num:Nat) (pl:List aU) (out:dR) (b:Nat) (pl0:List aU) (M:List LI->Prop),(∀q∈l,q∈args)->oz l=true->dZ l<=40->Made b pl0 (pl,out) M->Made b pl0 (pI true l num pl out) (qO M (NG l num)):=by
     intro l
     induction l with
     | nil=>intro num pl out b pl0 M _ _ _ h;rw[pI,NG];exact h.wJ λw=>(Zw M w).symm
     | cons q l ihl=>
       intro num pl out b pl0 M hm hg hn h;obtain⟨g1,g2⟩:=aap hg;rw[dZ] at hn;rw[pI,NG];simp only[if_true];refine (ihl _ _ _ b pl0 _ (λq hq=>hm q (by simp[hq])) g2 zO (h.cat (parts q (hm q zP) g1 zO num pl))).wJ λw=>?_;rw[NI]
    refine (key args (num+1) pl ⟨[],[],decide ((3:Int)=3)⟩ pl.length pl _ (λq hq=>hq) LZ zO (Made.nil pl)).wJ λw=>?_;rw[j5 hk,j6 rfl];exact NH _ w
   have key:∀(l:List aJ) (num:Nat) (pl:List aU) (out:dR) (b:Nat) (pl0:List aU) (M:List LI->Prop),(∀q∈l,q∈args)->oz l=true->dZ l<=40->Made b pl0 (pl,out) M->Made b pl0 (pI false l num pl out) (λw=>M w\/JG l num w):=by
    intro l
    induction l with
    | nil=>intro num pl out b pl0 M _ _ _ h;rw[pI,JG];exact h.wJ λw=>(or_iff_left (λh=>h)).symm
    | cons q l ihl=>
      intro num pl out b pl0 M hm hg hn h;obtain⟨g1,g2⟩:=aap hg;rw[dZ] at hn;rw[pI,JG];simp only[b6,if_false];refine (ihl _ _ _ b pl0 _ (λq hq=>hm q (by simp[hq])) g2 zO (h.or (parts q (hm q zP) g1 zO num pl))).wJ λw=>?_;exact or_assoc
   refine (key args (num+1) pl ⟨[],[],decide ((4:Int)=3)⟩ pl.length pl _ (λq hq=>hq) LZ zO (Made.never pl)).wJ λw=>?_;rw[j5 hk,j5 zD];simp
theorem xI(hg:kR p=true)(hn:dh p<=40)(num:Nat):CS (fV p num) (Gg (rW p num) p.mn p.mx):=by
 have hh:=wK p hg hn num;have hz:=Zx p hg;have Az:=Au p hg hn;unfold fV;obtain⟨k',nI,mx',uo,c',pr',args'⟩:=p;obtain⟨⟨a1,a2,a3⟩,_⟩:=rJ hg;refine Uo hh a1 (a3.imp id (·.1)) λh0 w=>Vm (hz ?_ num) a1 (a3.imp id (·.1)) w;rw[h0] at Az;omega
theorem FC(b2 b4:Nat)(h1:k≠1)(h2:k≠2)(h3:k≠3)(h4:k≠4)(h5:k≠5):dP jL k (ZG b2 b4)=none:=by
 unfold ZG;simp[dP,jL,h1,h2,h3,h4,h5]
theorem QR{top:Bool}(h1:p.kind≠1)(h2:p.kind≠2)(h3:p.kind≠3)(h4:p.kind≠4)(h5:p.kind≠5):bT n top p=false:=by
 obtain⟨k,mn,mx,el,c,pr,args⟩:=p;have g1:k≠1:=h1;have g2:k≠2:=h2;have g3:k≠3:=h3;have g4:k≠4:=h4;have g5:k≠5:=h5;rw[bT,j5 g1,j5 g2,j5 g3,j5 g4,j5 g5]
theorem ahm(W:World):(zeroValue 86).run prog W= .ok (.agg #[.nilFunc]) W:=by kernel_rfl
theorem iR{W:World}(h:gQ W gm vM WT (ZG b2 b4))(k:Int):(Instr.lookup 88 (.map (some gm)) k true).run prog W= .ok (.tuple #[((dP jL k (ZG b2 b4)).map WT).getD (.agg #[.nilFunc]),(dP jL k (ZG b2 b4)).isSome]) W:=
 qX qJ underlying88 ahm h k true
theorem avY(k:Int):∃(fv:Nat->Nat->Value) (is:Bool),(∀W gm b2 b4,gQ W gm vM WT (ZG b2 b4)->(Instr.lookup 88 (.map (some gm)) k true).run prog W= .ok (.tuple #[.agg #[fv b2 b4],is]) W)/\
 (is=false->(∀b2 b4,fv b2 b4= .nilFunc)/\∀n top p,p.kind=k->bT n top p=false)/\
 (is=true->∃(f:Nat) (cp:Nat->Nat->Array Value),(∀b2 b4,fv b2 b4= .func (.func f) #[] (cp b2 b4))/\(∀(b2 b4:Nat) (x y z:Value) (W:World),(callFunc f (#[x,y,z]++cp b2 b4)).run prog W= .ok (.enter f (#[x,y,z]++cp b2 b4)) W)/\
   ∀(nE:Int) (top:Bool) (p:aJ) (w:World),p.kind=k->(∀x∈p.args,EE nE x)->∀b1 b2 b3 b4 gm,lL w b1 b2 b3 b4 gm->∀(cs:List Value) (F:Nat->Prop),au w F (aZ p) cs->
    Rt f (#[.agg cs.toArray,.int .i64 nE,.bool top]++cp b2 b4) w (bT nE top p)):=by
 by_cases hk:k=1\/k=2\/k=3\/k=4\/k=5
 ·refine⟨λb2 b4=>(dP jL k (ZG b2 b4)).getD .nilFunc,true,λW gm b2 b4 h=>?_,(λh=>by cases h),λ_=>?_⟩
  ·rw[iR h k]
   rcases hk with rfl | rfl | rfl | rfl | rfl<;>rfl
  rcases hk with rfl | rfl | rfl | rfl | rfl
  ·exact⟨108,λ_ _=>#[],λ_ _=>rfl,λ_ _ _ _ _ _=>by kernel_rfl,λnE top p w hk _ _ _ _ _ _ _ cs F h=>by rw[Array.append_empty];exact ZI nE top p w hk cs F h⟩
  ·exact⟨109,λ_ _=>#[],λ_ _=>rfl,λ_ _ _ _ _ _=>by kernel_rfl,λnE top p w hk _ _ _ _ _ _ _ cs F h=>by rw[Array.append_empty];exact ZJ nE top p w hk cs F h⟩
  ·exact⟨110,λb2 b4=>#[(b2,0),(b4,0)],λ_ _=>rfl,λ_ _ _ _ _ _=>by kernel_rfl,λnE top p w hk hx b1 b2 b3 b4 gm hr cs F h=>by exact ZK nE top p w hk hx b1 b2 b3 b4 gm hr cs F h⟩
  ·exact⟨111,λb2 b4=>#[(b2,0),(b4,0)],λ_ _=>rfl,λ_ _ _ _ _ _=>by kernel_rfl,λnE top p w hk hx b1 b2 b3 b4 gm hr cs F h=>by exact ZL nE top p w hk hx b1 b2 b3 b4 gm hr cs F h⟩
  exact⟨112,λb2 b4=>#[(b2,0),(b4,0)],λ_ _=>rfl,λ_ _ _ _ _ _=>by kernel_rfl,λnE top p w hk hx b1 b2 b3 b4 gm hr cs F h=>by exact ZM nE top p w hk hx b1 b2 b3 b4 gm hr cs F h⟩
 have g:=not_or.1 hk;have g2:=not_or.1 g.2;have g3:=not_or.1 g2.2;have g4:=not_or.1 g3.2;refine⟨λ_ _=>.nilFunc,false,λW gm b2 b4 h=>?_,λ_=>⟨λ_ _=>rfl,λn top p hp=>?_⟩,(λh=>by cases h)⟩
 ·rw[iR h k,FC b2 b4 g.1 g2.1 g3.1 g4.1 g4.2];rfl
 subst hp;exact QR g.1 g2.1 g3.1 g4.1 g4.2
theorem QS(nE:Int):∀p:aJ,EE nE p:=by
 intro p
 induction p using aJ.ind with
 | h k' nI mx' uo cl' pr' args ih=>
 intro cs w F b1 b2 b3 b4 gm hr h;have bH:=au.here _ _ (jK _) h;have rZ:Hid (∀x∈(aJ.mk k' nI mx' uo cl' pr' args).args,EE nE x):=zH ih;obtain⟨p,hp⟩:=zF (aJ.mk k' nI mx' uo cl' pr' args);rw[hp] at rZ bH h ⊢;clear ih hp;obtain⟨k,mn,mx,el,ck,ns,nl,sp,A1,n1,c1,A2,n2,c2,pr,A,n,c,rfl,hk,-⟩:=aW bH;obtain⟨w1,bI,S1,lY,ai⟩:=zP1 w k mn mx el ck ns nl sp A1 n1 c1 A2 n2 c2 pr A n c;obtain⟨aQ,dX,jG,HK,q0,y1⟩:=zK6 (zH S1) (zH (hr.below ai)) (zH bH) (zH hk) (aj S1) (aO (hr.below ai).1);clear S1 h bH hr hk;obtain⟨fv,is,o8,hno,alU⟩:=avY k;have pg:=o8 w1 gm b2 b4 dX.2.2.2.2;obtain⟨HNO,alV⟩:=zJ2 hno alU;clear o8 hno alU;obtain⟨w2,mJ,S2,oW,ag⟩:=af w1 (Zc #[fv b2 b4] 86);have y2:=aO S2;have q0:=aj (ae aQ ag);obtain⟨nb,gX⟩:=zF (bU p.mn p.mx);have oG:Hid (Rt 51 #[.agg (o5 k mn mx el ck ns nl sp A1 n1 c1 A2 n2 c2 pr A n c)] w2 nb):=zH (nM p _ w2 _ (jG.below (ai.seq ag)) gX);obtain⟨fb,hfb⟩:=zF (bT nE false p);have HR:Hid ((bU p.mn p.mx&&bT nE false p)=(nb&&fb)):=zH (by rw[gX,hfb]);obtain⟨gY,HFB⟩:=zJ2 S2 hfb;clear S2 gX hfb;rw[HR.out]
 cases is with
 | false=>
   obtain rfl:false=fb:=(by rw[<-HFB.out];exact((HNO rfl).2 nE false p HK).symm);rw[Bool.and_false];have hn:=(HNO rfl).1 b2 b4;have S2:=gY.out;rw[hn] at pg mJ y2 S2;have f2:=k8 w2 w1 0 _ _ S2;clear S2;go_enter func104,ntmps104;go_wp2_with fail;go_ret;exact⟨rfl,(ai.seq ag).setCell ai.size _⟩
 | true=>
   obtain⟨f,cp,hcp,hcf,hfu⟩:=alV rfl
   have AL:Hid (∀W,Bw w2 W->Rt f (#[.agg (o5 k mn mx el ck ns nl sp A1 n1 c1 A2 n2 c2 pr A n c),.int .i64 nE,.bool false]++cp b2 b4) W fb):=zH λW hW=>by
    rw[<-HFB.out];exact hfu nE false p W HK rZ b1 b2 b3 b4 gm (dX.below (ag.seq hW)) _ _ (jG.below (ai.seq (ag.seq hW)))
   rw[hcp] at mJ y2 gY;rw[hcp] at pg;have hcf:=hcf b2 b4;clear hfu hcp alV HNO;cases nb
   ·go_enter func104,ntmps104;go_wp2_with fail;refine oG.mono ?_;rintro e w3 ⟨rfl,az⟩;go_wp2_with fail;go_ret;exact⟨rfl,ai.seq (ag.seq az)⟩
   go_enter func104,ntmps104;go_wp2_with fail;refine oG.mono ?_;rintro e w3 ⟨rfl,az⟩;clear q0 y2;have q0:=aj (ae aQ (ag.seq az));have y2:=aO (ae gY az);go_wp2_with fail;refine (AL w3 az).mono ?_;rintro e w4 ⟨rfl,aX⟩;go_wp2_with fail;go_ret;exact⟨rfl,ai.seq (ag.seq (az.seq aX))⟩
theorem xK(uO:o.guard=none)(m x v:Operand)(mt:TypeId)(uQ:o.op= .insert mt m x v)
     (K:NM P kt enc eq) (hm:P.underlying mt=some (.map kt et)) (g:Nat) (l:List (κ×β)) (hs:a.eval m= .map (some g)) (h:gQ w g enc val l)
 (k:κ) (hk:a.eval x=enc k) (b:β) (hv:a.eval v=val b)
 (hK:∀w',gQ w' g enc val (jh eq k b l)->(∀b,b≠g->w'.heap[b]?=w.heap[b]?)->w'.heap.size=w.heap.size->Kept (· =g) w w'->wpList P ops Q rest (a.put o.dst undef) w'):wpList P ops Q (o::rest) a w:=by
 refine wpList_plain uO λK' hK'=>?_;obtain⟨w',hw,h1,h2,h3,h4⟩:=h.put (l':=jh eq k b l);have bG:=ED K hm h k b;rw[hw] at bG;unfold Oper.wp;simp[execOp,uQ,hs,hk,hv,bG,Result.andThen];exact hK' _ _ (hK w' h1 h2 h3 h4)
theorem Lc(uO:o.guard=none)(m x v:Operand)(mt:TypeId)(uQ:o.op= .mapUpdate mt m x v)
     (K:NM P kt enc eq) (hm:P.underlying mt=some (.map kt et)) (g:Nat) (l:List (κ×β)) (hs:a.eval m= .map (some g)) (h:gQ w g enc val l)
 (k:κ) (hk:a.eval x=enc k) (b:β) (hv:a.eval v=val b)
 (hK:∀w',gQ w' g enc val (jh eq k b l)->(∀b,b≠g->w'.heap[b]?=w.heap[b]?)->w'.heap.size=w.heap.size->Kept (· =g) w w'->wpList P ops Q rest (a.put o.dst undef) w'):wpList P ops Q (o::rest) a w:=by
 refine wpList_plain uO λK' hK'=>?_;obtain⟨w',hw,h1,h2,h3,h4⟩:=h.put (l':=jh eq k b l);have bG:=ED K hm h k b;rw[hw] at bG;unfold Oper.wp;simp[execOp,uQ,hs,hk,hv,bG,Result.andThen];exact hK' _ _ (hK w' h1 h2 h3 h4)
theorem gq{p:Nat}{v:Value}(dD:g≠p):(w.setCell (p,i) v).heap[g]?=w.heap[g]?:=b7 w (p,i) v g dD
theorem lL.set{b1 b3:Nat}(h:lL w b1 b2 b3 b4 gm)(v:Value)(n1:b1≠g)(n2:b2≠g)(n3:b3≠g)(n4:b4≠g)(n5:gm≠g):lL (w.setCell (g,i) v) b1 b2 b3 b4 gm:=
 ⟨dE n1 h.1,dE n2 h.2.1,dE n3 h.2.2.1,dE n4 h.2.2.2.1,h.2.2.2.2.keep (gq n5)⟩
theorem BN(w:World):Cl 50 #[] w λe w'=>∃b1 b2 b3 b4 gm,e= .returned (.map (some gm))/\lL w' b1 b2 b3 b4 gm/\Bw w w'/\(w.heap.size<=b1/\w.heap.size<=b2/\w.heap.size<=b3/\w.heap.size<=b4/\w.heap.size<=gm):=by
 obtain⟨w1,bI,S1,nC,ai⟩:=af w (Zc #[.map none] 88);obtain⟨w2,mJ,S2,uS,ag⟩:=af w1 (Zc #[.func (.func 102) #[] #[]] 35);obtain⟨w3,vU,S3,su,az⟩:=af w2 (Zc #[.func (.func 104) #[] #[(w,0)]] 71);obtain⟨w4,vV,S4,IX,aX⟩:=af w3 (Zc #[.func (.func 105) #[] #[(w.heap.size+1+1,0)]] 71);obtain⟨w5,pq,S5,IY,bg⟩:=af w4 (.map #[] 0);have e1:w1=w.heap.size+1:=(by rw[<-bI];simp);have e2:w2=w.heap.size+1+1:=(by rw[<-mJ,World.size_alloc,e1]);have e3:w3=w.heap.size+1+1+1:=(by rw[<-vU,World.size_alloc,e2]);have e4:w4=w.heap.size+1+1+1+1:=(by rw[<-vV,World.size_alloc,e3]);have e5:w5=w.heap.size+1+1+1+1+1:=(by rw[<-pq,World.size_alloc,e4]);rw[e4] at S5;rw[e3] at S4;rw[e2] at S3;rw[e1] at S2;have M0:Hid (gQ w5 (w.heap.size+1+1+1+1) vM WT []):=zH S5;obtain⟨aQ,gY,vC,WU⟩:=zK4 (zH (ae S1 (ag.seq (az.seq (aX.seq bg))))) (zH (ae S2 (az.seq (aX.seq bg)))) (zH (ae S3 (aX.seq bg))) (zH (ae S4 bg));have HB:Hid (Bw w w5):=zH (ai.seq (ag.seq (az.seq (aX.seq bg))));have L8:=@run_makeMap prog;clear S1 S2 S3 S4 S5;go_enter func50,ntmps50
 go_wp2_with (first | (with_reducible refine xK rfl (.tmp 7) (.const (5:Int)) (.tmp 15) 88 rfl (et:=86) (val:=WT) qJ underlying88 (w.heap.size+1+1+1+1) _ rfl M4.out (5:Int) rfl (.func (.func 112) #[] #[(w.heap.size+1,0),(w.heap.size+1+1+1,0)]) rfl ?_;intro oH m1 m2 m3 m4;have M5:=zH m1;have K5:=zH m4;clear m1 m2 m3 m4;have K:=zH (((K1.out.trans K2.out).trans K3.out).trans (K4.out.trans K5.out));have R1:=bF aQ.out K.out zO;have q1:=aO R1;have f1:=k8 oH w 0 _ _ R1;have O1:=zH R1;clear R1) | (with_reducible refine xK rfl (.tmp 7) (.const (4:Int)) (.tmp 13) 88 rfl (et:=86) (val:=WT) qJ underlying88 (w.heap.size+1+1+1+1) _ rfl M3.out (4:Int) rfl (.func (.func 111) #[] #[(w.heap.size+1,0),(w.heap.size+1+1+1,0)]) rfl ?_;intro w9 m1 m2 m3 m4;have M4:=zH m1;have K4:=zH m4;clear m1 m2 m3 m4) | (with_reducible refine xK rfl (.tmp 7) (.const (3:Int)) (.tmp 11) 88 rfl (et:=86) (val:=WT) qJ underlying88 (w.heap.size+1+1+1+1) _ rfl M2.out (3:Int) rfl (.func (.func 110) #[] #[(w.heap.size+1,0),(w.heap.size+1+1+1,0)]) rfl ?_;intro w8 m1 m2 m3 m4;have M3:=zH m1;have K3:=zH m4;clear m1 m2 m3 m4) | (with_reducible refine xK rfl (.tmp 7) (.const (2:Int)) (.tmp 9) 88 rfl (et:=86) (val:=WT) qJ underlying88 (w.heap.size+1+1+1+1) _ rfl M1.out (2:Int) rfl (.func (.func 109) #[] #[]) rfl ?_;intro w7 m1 m2 m3 m4;have M2:=zH m1;have K2:=zH m4;clear m1 m2 m3 m4) | (with_reducible refine xK rfl (.tmp 7) (.const (1:Int)) (.tmp 8) 88 rfl (et:=86) (val:=WT) qJ underlying88 (w.heap.size+1+1+1+1) _ rfl M0.out (1:Int) rfl (.func (.func 108) #[] #[]) rfl ?_;intro w6 m1 m2 m3 m4;have M1:=zH m1;have K1:=zH m4;clear m1 m2 m3 m4))
 go_wp2_with fail;go_ret;have lq:=K.out.size;have yw:Bw w oH:=HB.out.trans (K.out.below zO zS5);refine⟨w,w.heap.size+1,w.heap.size+1+1,w.heap.size+1+1+1,w.heap.size+1+1+1+1,rfl,⟨bD O1.out,dE zO (bF gY.out K.out zO),dE zO (bF vC.out K.out zO),dE zO (bF WU.out K.out zO),?_⟩,yw.setCell (zR _) _,zO⟩;exact M5.out.keep (gq zO)
theorem Hu(h:l[i]?=p):dZ (l.drop i)=dh p+dZ (l.drop (i+1)):=by
 obtain⟨hi,rfl⟩:=z4.1 h;rw[nZ hi,dZ]
theorem QV{a b:Nat}(h:a+b<1000000000):wrap64 ((a:Int)+(b:Int))=((a+b:Nat):Int):=by rw[CU zO zO];push_cast;rfl
theorem size_any:∀(p:aJ) (cs:List Value) (w:World) (F:Nat->Prop),au w F (aZ p) cs->dh p<100000000->
 Rt 211 #[.agg cs.toArray] w (dh p):=by
 intro p
 induction p using aJ.ind with
 | h k' nI mx' uo cl' pr' args ih=>
   intro cs w F h Dc;have rZ:=zH ih;clear ih;have bH:=au.here _ _ (jK _) h;obtain⟨k,mn,mx,el,ck,ns,nl,sp,A1,n1,c1,A2,n2,c2,pr,A,n,c,rfl,-,-,-,-,-,-,hn,aI⟩:=aW bH;have kK:bM w (· <w) 12 (args.map aZ) A n:=aI;have HN:Hid (n=args.length):=zH (by have:=kK.1;rwa [z8] at this);have hD:dh (.mk k' nI mx' uo cl' pr' args)=1+dZ args:=(by rw[dh]);obtain⟨R,hR⟩:=zF (dh (.mk k' nI mx' uo cl' pr' args));rw[hR] at Dc hD ⊢;obtain⟨HD,lM⟩:=zJ2 hD kK;obtain⟨w1,bI,S1,lY,ai⟩:=zP1 w k mn mx el ck ns nl sp A1 n1 c1 A2 n2 c2 pr A n c;have aQ:=zH S1;have q0:=aj S1;clear S1 h bH hR hD aI kK;go_enter func211,ntmps211;go_wp2_with fail
   go_loopw [3,9] (λs3 si wr=>∃(i m:Nat),i<=n/\si= i/\s3= m/\Hid (m+dZ (args.drop i)=R)/\Bw w1 wr)
    (λ_ si _=>n - (intOf si).toNat)
   case atStart=>exact⟨0,1,zO,rfl,rfl,zH HD.symm,j9 _ _⟩
   clear q0;obtain⟨i,m,hi,rfl,rfl,HL,aH⟩:=hrel;have q0:=aj (ae aQ aH);have wG:=ai.seq aH;by_cases aN:i<n
   ·have jV:=zT1 (i<n);obtain⟨b,off,px,v0,v1,v2,v3,v4,v5,v6,v7,v8,v9,v10,v11,HX,eG,z0,z1,z2,z3,z4,z5,z6,z7,z8,z9,nZ,og,dO⟩:=(lM.below wG).DW aN c;obtain⟨kx,gU,gz,gZ,ig,ik,iq,iw,iy,iC,iD,iE,iF,iG,iH,Ax,nx,cx,fJ,-⟩:=aW eG;simp only[i7,and_true] at fJ;obtain⟨rfl,rfl,rfl,rfl,rfl,rfl,rfl,rfl,rfl,rfl,rfl,rfl⟩:=fJ;have HS:=zH (Hu HX);obtain⟨dq,yt⟩:=zF (dh px);rw[yt] at HS;have Pj:m+dq+dZ (args.drop (i+1))=R:=(by have:=HL.out;rw[HS.out] at this;omega);have HMD:=zH Pj;obtain⟨wa,BK,SA,Vg,bJ⟩:=zP1 wr kx gU gz gZ ig ik iq iw iy iC iD iE iF iG iH Ax nx cx;have x0:=aj SA;have Ew:=aH.seq bJ
    have HC:Hid (Rt 211 #[.agg (o5 kx gU gz gZ ig ik iq iw iy iC iD iE iF iG iH Ax nx cx)] wa dq):=zH (by
     have h:=rZ px (SK HX) _ wa _ (au.below eG (bJ.mono (wG.size))) (by rw[yt];omega)
     rw[yt] at h;exact h)
    have hwr:wrap64 ((m:Int)+(dq:Int))=((m+dq:Nat):Int):=QV zO;clear eG yt SA Pj;go_wp2_with fail;refine HC.mono ?_;rintro e w5 ⟨rfl,bg⟩;go_wp2_with fail;go_roundw
    case rel=>exact⟨i+1,m+dq,zO,by go_num,by first | rfl | (simp[hwr];done) | go_num,HMD,Ew.seq bg⟩
    simp[intOf];omega
   have jV:=zT2 (i<n);have HE:Hid (m=R):=zH (by have:=HL.out;rw[z14 (by have:=HN.out;omega),dZ] at this;omega);go_wp2_with fail;go_ret;exact⟨by rw[HE.out];rfl,wG⟩
def pJ(n:Int)(p:aJ):Bool:=
 if 0<p.args.length then false
 else if p.kind=1 then decide (0<=p.el)&&decide (p.el<n)&&qm p.cls&&decide (p.pr=0)
 else decide (p.kind=2)&&decide (p.el=0)&&decide (jF p.cls=0)&&decide (1<=p.pr)&&decide (p.pr<=3)
theorem Lj{v:Bool}(cl:aT)(cs:List Value)(w:World)(F:Nat->Prop)(h:dA w F cl cs)(hv:qm cl=v):
 Rt 116 #[.agg cs.toArray] w v:=by subst hv;exact Uj cl cs w F h
theorem N9(h:0<p.args.length):pJ n p=false:=by unfold pJ;rw[j6 h]
theorem YG(h:¬0<p.args.length)(hk:p.kind=1):pJ n p=(decide (0<=p.el)&&decide (p.el<n)&&qm p.cls&&decide (p.pr=0)):=by unfold pJ;rw[j5 h,j6 hk]
theorem YH(h:¬0<p.args.length)(hk:p.kind=2):pJ n p=(decide (p.el=0)&&decide (jF p.cls=0)&&decide (1<=p.pr)&&decide (p.pr<=3)):=by unfold pJ;rw[j5 h,j5 zO,hk];simp
theorem acI(eu:p.kind≠1)(dm:p.kind≠2):pJ n p=false:=by unfold pJ;rw[j5 eu];simp[dm]
theorem ayY{p:Prop} (h:p:=by
 go_enter func115,ntmps115;go_wp2_with fail;refine (QQ w1 (j9 _ _)).mono ?_;rintro e w2 ⟨rfl,ag⟩;clear q0 q1 q2 q3 q4 q5 q6 q7 q8 q9 aF aG;obtain⟨q0,q1,q2,q3,q4,q5,q6,q7,q8,q9,aF,aG⟩:=aj (ae aQ ag);go_wp2_with fail;go_ret
 exact⟨aK (by rw[HF.out];rfl),ai.seq ag⟩):p:=h
theorem asN{p:Prop} (h:p:=by
 go_enter func115,ntmps115;go_wp2_with fail;refine (Vq w1 (j9 _ _)).mono ?_;rintro e w2 ⟨rfl,ag⟩;clear q0 q1 q2 q3 q4 q5 q6 q7 q8 q9 aF aG;obtain⟨q0,q1,q2,q3,q4,q5,q6,q7,q8,q9,aF,aG⟩:=aj (ae aQ ag);go_wp2_with fail;go_ret
 exact⟨aK (by rw[HF.out];rfl),ai.seq ag⟩):p:=h
theorem ae9(nE:Int)(p:aJ)(cs:List Value)(w:World)(F:Nat->Prop)(h:au w F (aZ p) cs):
 Rt 115 #[.agg cs.toArray,nE] w (pJ nE p):=by
 have bH:=au.here _ _ (jK p) h;obtain⟨k,mn,mx,el,ck,ns,nl,sp,A1,n1,c1,A2,n2,c2,pr,A,n,c,rfl,hk,vH,l9,lT,uq,eH,hn,aI⟩:=aW bH;have hlen:n=p.args.length:=(by have:=aI.1;rwa [z8] at this);obtain⟨w1,bI,S1,lY,ai⟩:=zP1 w k mn mx el ck ns nl sp A1 n1 c1 A2 n2 c2 pr A n c;have aQ:=zH S1;obtain⟨R,hR⟩:=zF (pJ nE p);rw[hR];have HR:=zH hR;obtain⟨q0,q1,q2,q3,q4,q5,q6,q7,q8,q9,aF,aG⟩:=aj S1;clear S1 h bH vH l9 aI hR;by_cases h0:0<n
 ·have hd:decide (0<n)=true:=(by simpa using h0);have HX:Hid (R=false):=zH (by rw[<-HR.out];exact N9 (by rw[<-hlen];exact h0));clear h0 hlen hk lT uq eH;go_enter func115,ntmps115;go_wp2_with fail;go_ret;exact⟨by rw[HX.out];rfl,ai⟩
 have hd:decide (0<n)=false:=(by simpa using h0);have HN0:Hid (¬0<p.args.length):=zH (by rw[<-hlen];exact h0);clear h0 hlen;by_cases eu:k=1
 ·subst eu;obtain⟨e1,BM⟩:=zF (decide (0<=el));obtain⟨e2,DX⟩:=zF (decide (el<nE));obtain⟨bv,jS⟩:=zF (qm p.cls);have QQ:Hid (∀W,Bw w1 W->Rt 116 #[.agg #[ck,ns,nl,sp,(A1,n1,c1),(A2,n2,c2)]] W bv):=zH λW hW=>(by rw[<-jS];exact Uj p.cls _ W _ (eH.below (ai.seq hW)));obtain⟨e3,IW⟩:=zF ((pr==0));have HF:Hid (R=(e1&&e2&&bv&&e3)):=zH (by rw[<-HR.out,YG HN0 hk,lT,uq,BM,DX,jS,<-IW,oM pr 0]);clear hk lT uq eH jS;cases e1
  ·go_enter func115,ntmps115;go_wp2_with fail;go_ret;exact⟨aK (by rw[HF.out];rfl),ai⟩
  cases e2
  ·go_enter func115,ntmps115;go_wp2_with fail;go_ret;exact⟨aK (by rw[HF.out];rfl),ai⟩
  cases bv
  ·exact ayY
  cases e3
  ·exact ayY
  go_enter func115,ntmps115;go_wp2_with fail;refine (QQ w1 (j9 _ _)).mono ?_;rintro e w2 ⟨rfl,ag⟩;clear q0 q1 q2 q3 q4 q5 q6 q7 q8 q9 aF aG;obtain⟨q0,q1,q2,q3,q4,q5,q6,q7,q8,q9,aF,aG⟩:=aj (ae aQ ag);go_wp2_with fail;go_ret;exact⟨aK (by rw[HF.out];rfl),ai.seq ag⟩
 by_cases dm:k=2
 ·subst dm;obtain⟨e1,BM⟩:=zF ((el==0));obtain⟨ec,yJ⟩:=zF (jF p.cls);have Vq:Hid (∀W,Bw w1 W->Rt 71 #[.agg #[ck,ns,nl,sp,(A1,n1,c1),(A2,n2,c2)]] W ec):=zH λW hW=>(by rw[<-yJ];exact Qz p.cls _ W _ (eH.below (ai.seq hW)));obtain⟨e2,DX⟩:=zF ((ec==0));obtain⟨e3,IW⟩:=zF (decide (1<=pr));obtain⟨e4,Uu⟩:=zF (decide (pr<=3));have HF:Hid (R=(e1&&e2&&e3&&e4)):=zH (by rw[<-HR.out,YH HN0 hk,lT,uq,<-BM,<-DX,IW,Uu,<-yJ,oM el 0,oM (jF p.cls) 0]);clear hk lT uq eH yJ;cases e1
  ·go_enter func115,ntmps115;go_wp2_with fail;go_ret;exact⟨aK (by rw[HF.out];rfl),ai⟩
  cases e2
  ·exact asN
  cases e3
  ·exact asN
  cases e4
  ·exact asN
  go_enter func115,ntmps115;go_wp2_with fail;refine (Vq w1 (j9 _ _)).mono ?_;rintro e w2 ⟨rfl,ag⟩;clear q0 q1 q2 q3 q4 q5 q6 q7 q8 q9 aF aG;obtain⟨q0,q1,q2,q3,q4,q5,q6,q7,q8,q9,aF,aG⟩:=aj (ae aQ ag);go_wp2_with fail;go_ret;exact⟨aK (by rw[HF.out];rfl),ai.seq ag⟩
 have gJ:(k==1)=false:=(by simpa using eu);have jc:(k==2)=false:=(by simpa using dm);have HX:Hid (R=false):=zH (by rw[<-HR.out];exact acI (by rw[hk];exact eu) (by rw[hk];exact dm));clear eu dm hk lT uq eH;go_enter func115,ntmps115;go_wp2_with fail;go_ret;exact⟨by rw[HX.out];rfl,ai⟩
mutual
def Bh:aT->List Nm
 | .mk k ns nl _ ex ar=>(if k=1 then [(ns,nl)] else [])++(Dy ex++Dy ar)
def Dy:List aT->List Nm
 | []=>[]
 | c::l=>Bh c++Dy l
end
mutual
def Bi:aT->List ByteArray
 | .mk k ns _ s ex ar=>(if k=1 then [ns] else if k=2 then [s] else [])++(Dz ex++Dz ar)
def Dz:List aT->List ByteArray
 | []=>[]
 | c::l=>Bi c++Dz l
end
mutual
def DC:aJ->List Nm
 | .mk k _ _ _ c _ args=>(if k=2 then Bh c else [])++DD args
def DD:List aJ->List Nm
 | []=>[]
 | p::l=>DC p++DD l
end
mutual
def DF:aJ->List ByteArray
 | .mk k _ _ _ c _ args=>(if k=2 then Bi c else [])++DI args
def DI:List aJ->List ByteArray
 | []=>[]
 | p::l=>DF p++DI l
end
structure zZ where
 names:List Nm
 spaces:List ByteArray
def adC(elems:List (List Nm))(ps:List aJ):List Nm:=elems.flatten++DD ps
def adD(elems:List (List Nm))(ps:List aJ):List ByteArray:=elems.flatten.map (·.1)++DI ps
def mZ(elems:List (List Nm))(ps:List aJ):zZ:=⟨(adC elems ps).foldl sF [],(adD elems ps).foldl qy []⟩
def zZ.size(a:zZ):Nat:=a.names.length+a.spaces.length+1
def EN:ByteArray:=⟨#[117,114,110,58,120]⟩
def AZ(taken:Nat->Bool)(n:Nat):Nat:=((List.range (n+1)).find? λk=>!taken k).getD 0
def iJ(a:zZ)(x:Nat):Nm:=
 match a.names[x]? with
 | some n=>n
 | none=>match a.spaces[x - a.names.length]? with
   | some s=>(s,dL xB (AZ (λk=>a.names.any (eqN (s,dL xB k))) a.names.length))
   | none=>(dL EN (AZ (λk=>a.spaces.any (eqS (dL EN k))) a.spaces.length),xB)
def qR(x:List Nat):List (List Nat)->Nat->Option Nat
 | [],_=>none
 | y::l,i=>if y=x then some i else qR x l (i+1)
def tN(nx:List Nat)(sets:List (List Nat)):Option (List (List Nat)×Int):=
 if nx=[] then some (sets,-1) else match qR nx sets 0 with
  | some i=>some (sets,i)
  | none=>if 1000<=sets.length then none else some (sets++[nx],sets.length)
def mkRow(jD:Nat->List Nat):List Nat->List (List Nat)->List Int->Option (List (List Nat)×List Int)
 | [],sets,row=>some (sets,row)
 | x::xs,sets,row=>match tN (jD x) sets with
   | none=>none
   | some r=>mkRow jD xs r.1 (row++[r.2])
def oU(jD:List Nat->Nat->List Nat)(K:Nat):Nat->Nat->List (List Nat)->List (List Int)->Option (List (List Nat)×List (List Int))
 | 0,_,sets,rows=>some (sets,rows)
 | f+1,k,sets,rows=>match sets[k]? with
   | none=>some (sets,rows)
   | some s=>match mkRow (jD s) (List.range K) sets [] with
     | none=>none
     | some r=>oU jD K f (k+1) r.1 (rows++[r.2])
def wR(mark:List Nat->Bool):List (List Nat)->Nat->Int->List Int
 | [],_,_=>[]
 | s::l,i,n=>if i=0\/mark s=true then n::wR mark l (i+1) (n+1) else (-1)::wR mark l (i+1) n
def A7(mark fin:List Nat->Bool):List (List Nat)->Nat->List Bool
 | [],_=>[]
 | s::l,i=>if i=0\/mark s=true then fin s::A7 mark fin l (i+1) else A7 mark fin l (i+1)
def uY(nums:List Int):List (List Int)->List Int->List (List Int)
 | [],_=>[]
 | _::_,[]=>[]
 | r::l,n::ns=>if n<0 then uY nums l ns else (r.map λt=>if 0<=t then (nums[t.toNat]?).getD 0 else t)::uY nums l ns
structure Aut where
 names:List Nm
 spaces:List ByteArray
 final:List Bool
 steps:List (List Int)
def TM(a:zZ)(mark fin:List Nat->Bool)(sets:List (List Nat))(rows:List (List Int)):Aut:=
 ⟨a.names,a.spaces,A7 mark fin sets 0,uY (wR mark sets 0 0) rows (wR mark sets 0 0)⟩
def nilA:Aut:=⟨[],[],[],[]⟩
def xX(m:eQ)(a:zZ)(set:List Nat)(x:Nat):List Nat:=lZ m set (iJ a x)
noncomputable def DJ(p:aJ)(elems:List (List Nm)):Aut×Int:=
 if kN elems p≠0 then (nilA,kN elems p)
 else match oU (xX (eU elems p) (mZ elems [p])) (mZ elems [p]).size 1001 0 [[0]] [] with
  | none=>(nilA,3)
  | some r=>(TM (mZ elems [p]) (λs=>EX s (aao (eU elems p))) (qA (eU elems p)) r.1 r.2,0)
def aaP(eq:α->α->Bool)(x:α):List α->Nat->Option Nat
 | [],_=>none
 | y::l,i=>if eq y x then some i else aaP eq x l (i+1)
def acG(lt:α->α->Bool):List α->Bool
 | []=>true
 | [_]=>true
 | x::y::l=>lt x y&&acG lt (y::l)
def adu(names:List Nm)(spaces:List ByteArray)(n:Nm):Int×Int:=
 if oZ n=true\/acG jg names=false\/acG kQ spaces=false then (0,2)
 else match aaP eqN n names 0 with
  | some i=>(i,0)
  | none=>match aaP eqS n.1 spaces 0 with
    | some i=>(names.length+i,0)
    | none=>(names.length+spaces.length,0)
structure mW where
 a:List Nat
 b:List Nat
 from_:Int
 letter:Nat
