import Derived.Test.YtgmnnegfndpakaaGreatDoorH09
set_option maxHeartbeats 20000000
set_option maxRecDepth 100000
namespace Go.Proofs.YtgmnnegfndpakaaGreatDoor
open Go.RowKit Go.Proofs.Tryz
variable{v top:Bool}{p:aJ}{x y m:Nat}{n:Int}
mutual
def bT(n:Int):Bool->aJ->Bool
 | top,.mk k mn mx el c pr args=>
   if k=1 then decide (0<=el)&&decide (el<n)&&qm c&&decide (pr=0)&&decide (args.length=0)
   else if k=2 then decide (el=0)&&decide (args.length=0)&&decide (1<=pr)&&decide (pr<=3)&&decide (jF c=0)
   else if k=3 then (decide (el=0)&&qm c&&decide (pr=0))&&jZ n args
   else if k=4 then (decide (el=0)&&qm c&&decide (pr=0))&&decide (0<args.length)&&jZ n args
   else if k=5 then top&&(decide (el=0)&&qm c&&decide (pr=0))&&decide (mn=1)&&decide (mx=1)&&decide (0<args.length)&&decide (args.length<=6)&&jZ n args&&args.all (λp=>fD p.kind&&decide (1<=p.mx)&&decide (p.mx<=3))
   else false
def jZ(n:Int):List aJ->Bool
 | []=>true
 | p::l=>(bU p.mn p.mx&&bT n false p)&&jZ n l
end
def xh(p:aJ):Bool:=decide (p.el=0)&&qm p.cls&&decide (p.pr=0)
def xP(p:aJ):Bool:=!fD p.kind||decide (p.mx<1)||decide (3<p.mx)
def rG(n:Int)(p:aJ):Bool:=!(bU p.mn p.mx&&bT n false p)
theorem amz(cl:aT)(cs:List Value)(w:World)(F:Nat->Prop)(h:dA w F cl cs)(hv:qm cl=v):
 Rt 103 #[.agg cs.toArray] w v:=by subst hv;exact abX cl cs w F h
theorem nM(p:aJ)(cs:List Value)(w:World)(F:Nat->Prop)(h:au w F (aZ p) cs)(hv:bU p.mn p.mx=v):
 Rt 51 #[.agg cs.toArray] w v:=by subst hv;exact aeY p cs w F h
theorem QH(p:aJ)(cs:List Value)(w:World)(F:Nat->Prop)(h:au w F (aZ p) cs):
 Rt 102 #[.agg cs.toArray] w (xh p):=by
 obtain⟨k,mn,mx,el,ck,ns,nl,sp,A1,n1,c1,A2,n2,c2,pr,A,n,c,rfl,-,-,-,lT,uq,eH,-⟩:=aW (au.here _ _ (jK p) h);obtain⟨w1,bI,S1,lY,ai⟩:=zP1 w k mn mx el ck ns nl sp A1 n1 c1 A2 n2 c2 pr A n c;obtain⟨bv,jS⟩:=zF (qm p.cls);have HB:Hid (xh p=(decide (el=0)&&bv&&decide (pr=0))):=zH (by unfold xh;rw[lT,uq,jS]);have HC:Hid (Rt 103 #[.agg #[ck,ns,nl,sp,(A1,n1,c1),(A2,n2,c2)]] w1 bv):=zH (amz p.cls _ w1 _ (eH.below ai) jS);have aQ:=zH S1;have q0:=aj S1;clear S1 h lT uq eH jS;by_cases he:el=0
 ·have hd:(el==0)=true:=(by simpa using he);have O0:=zH he;clear he;go_enter func102,ntmps102;go_wp2_with fail;refine HC.mono ?_;rintro e w2 ⟨rfl,ag⟩;clear q0;have q0:=aj (ae aQ ag);cases bv
  all_goals
   go_wp2_with fail;go_ret;refine⟨aK ?_,ai.seq ag⟩;rw[HB.out,O0.out]
   first | rfl | (simp;done) | (rw[m9];simp)
 have hd:(el==0)=false:=(by simpa using he);have O0:=zH he;clear he;go_enter func102,ntmps102;go_wp2_with fail;go_ret;exact⟨aK (by rw[HB.out];simp[O0.out]),ai⟩
theorem ars(p:aJ)(cs:List Value)(w:World)(F:Nat->Prop)(h:au w F (aZ p) cs):
 Rt 113 #[.agg cs.toArray] w (xP p):=by
 have bH:=au.here _ _ (jK p) h;obtain⟨k,mn,mx,el,ck,ns,nl,sp,A1,n1,c1,A2,n2,c2,pr,A,n,c,rfl,-,-,l9,-⟩:=aW bH;obtain⟨w1,bI,S1,lY,ai⟩:=zP1 w k mn mx el ck ns nl sp A1 n1 c1 A2 n2 c2 pr A n c;obtain⟨bv,jS⟩:=zF (fD p.kind);have HB:Hid (xP p=(!bv||decide (mx<1)||decide (3<mx))):=zH (by unfold xP;rw[l9,jS]);have HC:Hid (Rt 114 #[.agg (o5 k mn mx el ck ns nl sp A1 n1 c1 A2 n2 c2 pr A n c)] w1 bv):=zH (ab1 p _ w1 _ (bH.below ai) jS);have aQ:=zH S1;have q0:=aj S1;clear S1 h bH l9 jS;go_enter func113,ntmps113;go_wp2_with fail;refine HC.mono ?_;rintro e w2 ⟨rfl,ag⟩;clear q0;have q0:=aj (ae aQ ag);cases bv
 all_goals
  go_wp2_with fail
  all_goals
   go_ret;refine⟨aK ?_,ai.seq ag⟩;rw[HB.out]
   first | rfl | (simp[*];done) | (rw[m9];simp[*];omega)
theorem asa{p:Prop} (h:p:=by
 go_wp2_with fail;refine HC.mono ?_;rintro e w3 ⟨rfl,az⟩;go_wp2_with fail;go_roundw
 case rel=>exact⟨i+1,zO,by go_num,zH (by rw[HL.out,HS.out];rfl),aH.trans (az.mono aH.size)⟩
 simp[intOf];omega):p:=h
theorem alS{p:Prop} (h:p:=by
 go_wp2_with fail;refine HC.mono ?_;rintro e w3 ⟨rfl,az⟩;go_wp2_with fail;go_ret
 exact⟨iU (by rw[HL.out,HS.out];rfl),aH.trans (az.mono aH.size)⟩):p:=h
theorem alX{p:Prop} (h:p:=by
 have hd:=zT2 (i<n);have HE:Hid (l.drop i=[]):=zH (z14 (by have:=HN.out;omega));go_wp2_with fail;go_ret
 exact⟨iU (by rw[HL.out,HE.out,kE]),aH⟩):p:=h
theorem ahg(l:List aJ)(A:Option Addr)(n c:Nat)(w:World)(F:Nat->Prop)(bQ:bM w F 12 (l.map aZ) A n)(hn:n<6000000000000)
 (eH:∀p∈l,∀(cs:List Value) (W:World) (G:Nat->Prop),Bw w W->au W G (aZ p) cs->Rt 113 #[.agg cs.toArray] W (xP p)):
 Rt 162 #[(A,n,c),.func (.func 113) #[] #[]] w (kE xP l 0):=by
 have aI:=bM.here bQ (TE l);have HN:Hid (n=l.length):=zH (by have:=aI.1;rwa [z8] at this);have vJ:=zH eH;clear bQ eH;go_enter func162,ntmps162;go_wp2_with fail
 go_loopw [8] (λsi wr=>∃i:Nat,i<=n/\si= i/\Hid (kE xP l 0=kE xP (l.drop i) i)/\Bw w wr)
  (λsi _=>n - (intOf si).toNat)
 case atStart=>exact⟨0,zO,rfl,zH rfl,j9 _ _⟩
 obtain⟨i,hi,rfl,HL,aH⟩:=hrel;by_cases aN:i<n
 ·obtain⟨b,off,px,v0,v1,v2,v3,v4,v5,v6,v7,v8,v9,v10,v11,HX,eG,z0,z1,z2,z3,z4,z5,z6,z7,z8,z9,nZ,og,dO⟩:=(aI.below aH).DW aN c;have hd:=zT1 (i<n);obtain⟨v,hv⟩:=zF (xP px);have HS:=zH (yL (p:=xP) HX);rw[hv] at HS;have HC:Hid (Rt 113 #[.agg #[v0,v1,v2,v3,v4,v5,v6,v7,v8,v9,v10,v11]] wr v):=zH (by rw[<-hv];exact vJ px (SK HX) _ wr _ aH eG);clear hv eG;cases v
  ·exact asa
  exact alS
 exact alX
theorem WC(l:List aJ)(A:Option Addr)(n c:Nat)(w:World)(F:Nat->Prop)(bQ:bM w F 12 (l.map aZ) A n)(hn:n<6000000000000)
 (eH:∀p∈l,∀(cs:List Value) (W:World) (G:Nat->Prop),Bw w W->au W G (aZ p) cs->Rt 113 #[.agg cs.toArray] W (xP p)):
 Rt 106 #[(A,n,c),.func (.func 113) #[] #[]] w (l.any xP):=by
 have HC:=zH (ahg l A n c w F bQ hn eH);have HR:=zH (tY xP l 0);clear bQ eH;go_enter func106,ntmps106;go_wp2_with fail;refine HC.mono ?_;rintro e w2 ⟨rfl,ag⟩;go_wp2_with fail;go_ret;exact⟨aK HR,ag⟩
theorem ahh(b3 be:Nat)(nE:Int)(l:List aJ)(A:Option Addr)(n c:Nat)(w:World)(F:Nat->Prop)(bQ:bM w F 12 (l.map aZ) A n)(hn:n<6000000000000)
 (eH:∀p∈l,∀(cs:List Value) (W:World) (G:Nat->Prop),Bw w W->au W G (aZ p) cs->Rt 107 #[.agg cs.toArray,(b3,0),(be,0)] W ((rG nE) p)):
 Rt 162 #[(A,n,c),.func (.func 107) #[] #[(b3,0),(be,0)]] w (kE (rG nE) l 0):=by
 have aI:=bM.here bQ (TE l);have HN:Hid (n=l.length):=zH (by have:=aI.1;rwa [z8] at this);have vJ:=zH eH;clear bQ eH;go_enter func162,ntmps162;go_wp2_with fail
 go_loopw [8] (λsi wr=>∃i:Nat,i<=n/\si= i/\Hid (kE (rG nE) l 0=kE (rG nE) (l.drop i) i)/\Bw w wr)
  (λsi _=>n - (intOf si).toNat)
 case atStart=>exact⟨0,zO,rfl,zH rfl,j9 _ _⟩
 obtain⟨i,hi,rfl,HL,aH⟩:=hrel;by_cases aN:i<n
 ·obtain⟨b,off,px,v0,v1,v2,v3,v4,v5,v6,v7,v8,v9,v10,v11,HX,eG,z0,z1,z2,z3,z4,z5,z6,z7,z8,z9,nZ,og,dO⟩:=(aI.below aH).DW aN c;have hd:=zT1 (i<n);obtain⟨v,hv⟩:=zF ((rG nE) px);have HS:=zH (yL (p:=(rG nE)) HX);rw[hv] at HS;have HC:Hid (Rt 107 #[.agg #[v0,v1,v2,v3,v4,v5,v6,v7,v8,v9,v10,v11],(b3,0),(be,0)] wr v):=zH (by rw[<-hv];exact vJ px (SK HX) _ wr _ aH eG);clear hv eG;cases v
  ·exact asa
  exact alS
 exact alX
theorem WE(b3 be:Nat)(nE:Int)(l:List aJ)(A:Option Addr)(n c:Nat)(w:World)(F:Nat->Prop)(bQ:bM w F 12 (l.map aZ) A n)(hn:n<6000000000000)
 (eH:∀p∈l,∀(cs:List Value) (W:World) (G:Nat->Prop),Bw w W->au W G (aZ p) cs->Rt 107 #[.agg cs.toArray,(b3,0),(be,0)] W ((rG nE) p)):
 Rt 106 #[(A,n,c),.func (.func 107) #[] #[(b3,0),(be,0)]] w (l.any (rG nE)):=by
 have HC:=zH (ahh b3 be nE l A n c w F bQ hn eH);have HR:=zH (tY (rG nE) l 0);clear bQ eH;go_enter func106,ntmps106;go_wp2_with fail;refine HC.mono ?_;rintro e w2 ⟨rfl,ag⟩;go_wp2_with fail;go_ret;exact⟨aK HR,ag⟩
structure aU where
 leaf:aJ
 num:Nat
 follow:List Nat
structure dR where
 first:List Nat
 last:List Nat
 empty:Bool
def oN:dR:=⟨[],[],true⟩
def tZ(pl:List aU)(f:List Nat)(i:Nat):List aU:=pl.modify i λq=>{ q with follow:=q.follow++f }
def dB(pl:List aU)(x y:dR):List aU:=x.last.foldl (λpl i=>tZ pl y.first i) pl
def fG(x y:dR):dR:=⟨x.first++(if x.empty then y.first else []),y.last++(if y.empty then x.last else []),x.empty&&y.empty⟩
def kY(once:List aU->List aU×dR):Nat->List aU->dR->List aU×dR
 | 0,pl,out=>(pl,out)
 | n+1,pl,out=>kY once n (dB (once pl).1 out (once pl).2) (fG out (once pl).2)
def mY(once:List aU->List aU×dR):Nat->List aU->dR->List aU×dR
 | 0,pl,tail=>(pl,tail)
 | n+1,pl,tail=>mY once n (dB (once pl).1 (once pl).2 tail) { fG (once pl).2 tail with empty:=true }
def rH(once:List aU->List aU×dR)(mn mx z:Int)(pl:List aU):List aU×dR:=
 if z=0 then (pl,oN) else
 let a:=kY once mn.toNat pl oN
 if mx= -1 then
  let b:=once a.1
  let y:dR:={ b.2 with empty:=true }
  (dB (dB b.1 b.2 b.2) a.2 y,fG a.2 y)
 else
  let b:=mY once (mx - mn).toNat a.1 oN
  (dB b.1 a.2 b.2,fG a.2 b.2)
mutual
def kL:aJ->Nat->List aU->List aU×dR
 | .mk k mn mx el c pr args,num,pl=>if fD k then (pl++[⟨.mk k mn mx el c pr args,num,[]⟩],⟨[pl.length],[pl.length],false⟩) else pI (decide (k=3)) args (num+1) pl ⟨[],[],decide (k=3)⟩
def pI:Bool->List aJ->Nat->List aU->dR->List aU×dR
 | _,[],_,pl,out=>(pl,out)
 | sq,p::l,num,pl,out=>
   let r:=rH (kL p num) p.mn p.mx (dC p) pl
   if sq then pI sq l (num+dh p) (dB r.1 out r.2) (fG out r.2)
   else pI sq l (num+dh p) r.1 ⟨out.first++r.2.first,out.last++r.2.last,out.empty||r.2.empty⟩
end
def fV(p:aJ)(num:Nat)(pl:List aU):List aU×dR:=rH (kL p num) p.mn p.mx (dC p) pl
structure eQ where
 elems:List (List Nm)
 places:List aU
 first:List Nat
 last:List Nat
 empty:Bool
 all:List aJ
def eU(elems:List (List Nm))(p:aJ):eQ:=
 if p.kind=5 then ⟨elems,[],[],[],false,p.args⟩
 else ⟨elems,(fV p 0 []).1,(fV p 0 []).2.first,(fV p 0 []).2.last,(fV p 0 []).2.empty,[]⟩
structure Stp where
 dst:Nat
 num:Nat
 leaf:aJ
def qH:List aJ->Nat->Nat->Nat->Nat->List Stp
 | [],_,_,_,_=>[]
 | p::l,s,i,unit,rest=>(if ((rest % 4:Nat):Int)<p.mx then [⟨s+unit,i+1,p⟩] else [])++qH l s (i+1) (4*unit) (rest / 4)
def CP(pl:List aU)(i:Nat):List Stp:=match pl[i]? with
 | some q=>[⟨i+1,q.num,q.leaf⟩]
 | none=>[]
def ku(m:eQ)(s:Nat):List Nat:=if s=0 then m.first else match m.places[s - 1]? with
 | some q=>q.follow
 | none=>[]
def gK(m:eQ)(s:Nat):List Stp:=
 if m.all.isEmpty then (ku m s).flatMap (CP m.places) else qH m.all s 0 1 s
def II:List aJ->Nat->Bool
 | [],_=>true
 | p::l,s=>decide (p.mn<=((s % 4:Nat):Int))&&decide (((s % 4:Nat):Int)<=p.mx)&&II l (s / 4)
def wH(m:eQ)(s:Nat):Bool:=
 if m.all.isEmpty then (decide (s=0)&&m.empty)||m.last.any (λi=>decide (i+1=s)) else II m.all s
def elemAt(elems:List (List Nm))(i:Int):List Nm:=(elems[i.toNat]?).getD []
def Gf(elems:List (List Nm))(p:aJ)(n:Nm):Bool:=
 if p.kind=1 then (elemAt elems p.el).any (eqN n)
 else (xg (xO p.cls) (jJ n.1 n.2) (pK p.cls n.1 n.2)).1&&decide ((xg (xO p.cls) (jJ n.1 n.2) (pK p.cls n.1 n.2)).2=0)
def Ey(x:Nat):List Nat->List Nat
 | []=>[x]
 | y::l=>if x<y then x::y::l else if x=y then y::l else y::Ey x l
def sset(l:List Nat):List Nat:=l.foldr Ey []
def IJ(m:eQ)(n:Nm)(s:Nat):List Nat:=((gK m s).filter λx=>Gf m.elems x.leaf n).map (·.dst)
def lZ(m:eQ)(set:List Nat)(n:Nm):List Nat:=sset (set.flatMap (IJ m n))
theorem Vh:∀{l:List Nat},y∈Ey x l↔y=x\/y∈l
 | []=>by simp[Ey]
 | z::l=>by
   rw[Ey]
   split
   ·simp
   split
   ·rename_i h;subst h;simp
   rw[TT,Vh,TT,or_left_comm]
theorem wI:∀{l:List Nat},y∈sset l↔y∈l
 | []=>by simp[sset]
 | z::l=>by
   show y∈Ey z (sset l)↔_;rw[Vh,wI,TT]
theorem Un:∀{l:List Nat},l.Pairwise (· < ·)->(Ey x l).Pairwise (· < ·)
 | [],_=>by simp[Ey]
 | z::l,h=>by
   rw[List.pairwise_cons] at h;rw[Ey]
   split
   ·rename_i hx;rw[List.pairwise_cons,List.pairwise_cons];refine⟨λa ha=>?_,h⟩
    rcases TT.1 ha with rfl | ha
    ·exact hx
    exact Nat.lt_trans hx (h.1 a ha)
   split
   ·rw[List.pairwise_cons];exact h
   rename_i h1 h2;rw[List.pairwise_cons];refine⟨λa ha=>?_,Un h.2⟩
   rcases Vh.1 ha with rfl | ha
   ·omega
   exact h.1 a ha
theorem qW:∀(l:List Nat),(sset l).Pairwise (· < ·)
 | []=>List.Pairwise.nil
 | _::l=>Un (qW l)
theorem WG:∀{a b:List Nat},a.Pairwise (· < ·)->b.Pairwise (· < ·)->(∀x,x∈a↔x∈b)->a=b
 | [],[],_,_,_=>rfl
 | [],y::b,_,_,h=>by have:=(h y).2 zP;simp at this
 | x::a,[],_,_,h=>by have:=(h x).1 zP;simp at this
 | x::a,y::b,ha,hb,h=>by
   rw[List.pairwise_cons] at ha hb
   have hxy:x=y:=by
    rcases TT.1 ((h x).1 zP) with e | e
    ·exact e
    rcases TT.1 ((h y).2 zP) with e' | e'
    ·exact e'.symm
    have:=ha.1 y e';have:=hb.1 x e;omega
   subst hxy;rw[WG ha.2 hb.2 λz=>?_];constructor
   ·intro hz
    rcases TT.1 ((h z).1 (Zb _ hz)) with rfl | e
    ·exact absurd (ha.1 z hz) (Nat.lt_irrefl _)
    exact e
   intro hz
   rcases TT.1 ((h z).2 (Zb _ hz)) with rfl | e
   ·exact absurd (hb.1 z hz) (Nat.lt_irrefl _)
   exact e
def WT(v:Value):Value:=.agg #[v]
def ZG(b2 b4:Nat):List (Int×Value):=[(1,.func (.func 108) #[] #[]),(2,.func (.func 109) #[] #[]),(3,.func (.func 110) #[] #[(b2,0),(b4,0)]),(4,.func (.func 111) #[] #[(b2,0),(b4,0)]),(5,.func (.func 112) #[] #[(b2,0),(b4,0)])]
def lL(w:World)(b1 b2 b3 b4 gm:Nat):Prop:=
 w.heap[b1]?=Zc #[.map (some gm)] 88/\w.heap[b2]?=Zc #[.func (.func 102) #[] #[]] 35/\w.heap[b3]?=Zc #[.func (.func 104) #[] #[(b1,0)]] 71/\
 w.heap[b4]?=Zc #[.func (.func 105) #[] #[(b3,0)]] 71/\gQ w gm vM WT (ZG b2 b4)
theorem lL.below{w w':World}{b1 b2 b3 b4 gm:Nat}(h:lL w b1 b2 b3 b4 gm)(hb:Bw w w'):lL w' b1 b2 b3 b4 gm:=
 ⟨ae h.1 hb,ae h.2.1 hb,ae h.2.2.1 hb,ae h.2.2.2.1 hb,h.2.2.2.2.below hb⟩
def EE(n:Int)(p:aJ):Prop:=∀(cs:List Value) (w:World) (F:Nat->Prop) (b1 b2 b3 b4 gm:Nat),lL w b1 b2 b3 b4 gm->au w F (aZ p) cs->
 Cl 104 #[.agg cs.toArray,n,(b1,0)] w λe w'=>e= .returned (bU p.mn p.mx&&bT n false p:Bool)/\Bw w w'
theorem ZH(n:Int):∀l:List aJ,jZ n l=!(l.any (rG n))
 | []=>by rw[jZ];rfl
 | p::l=>by rw[jZ,ZH n l,List.any_cons,Bool.not_or];unfold rG;rw[Bool.not_not]
theorem ajy(nE:Int)(p:aJ)(hp:EE nE p)(be:Nat)(cs:List Value)(w:World)(F:Nat->Prop)(b1 b2 b3 b4 gm:Nat)(hr:lL w b1 b2 b3 b4 gm)(jm:w.heap[be]?=Zc #[nE] 3)(h:au w F (aZ p) cs):
 Rt 107 #[.agg cs.toArray,(b3,0),(be,0)] w (rG nE p):=by
 have bH:=au.here _ _ (jK p) h;obtain⟨k,mn,mx,el,ck,ns,nl,sp,A1,n1,c1,A2,n2,c2,pr,A,n,c,rfl,-⟩:=aW bH;obtain⟨w1,bI,S1,lY,ai⟩:=zP1 w k mn mx el ck ns nl sp A1 n1 c1 A2 n2 c2 pr A n c;obtain⟨bv,jS⟩:=zF ((bU p.mn p.mx&&bT nE false p));have HB:Hid (rG nE p=!bv):=zH (by unfold rG;rw[jS]);have HC:Hid (Rt 104 #[.agg (o5 k mn mx el ck ns nl sp A1 n1 c1 A2 n2 c2 pr A n c),nE,(b1,0)] w1 bv):=zH (by rw[<-jS];exact hp _ w1 _ b1 b2 b3 b4 gm (hr.below ai) (bH.below ai));have y3:=aO (ae hr.2.2.1 ai);have ye:=aO (ae jm ai);have q0:=aj S1;clear S1 h bH hr hp jm jS;go_enter func107,ntmps107;go_wp2_with fail;refine HC.mono ?_;rintro e w2 ⟨rfl,ag⟩;go_wp2_with fail;go_ret;exact⟨aK HB.symm,ai.seq ag⟩
theorem Vp(nE:Int)(p:aJ)(hp:∀x∈p.args,EE nE x)(cs:List Value)(w:World)(F:Nat->Prop)(b1 b2 b3 b4 gm:Nat)(hr:lL w b1 b2 b3 b4 gm)(h:au w F (aZ p) cs):
 Rt 105 #[.agg cs.toArray,nE,(b3,0)] w (jZ nE p.args):=by
 have bH:=au.here _ _ (jK p) h;obtain⟨k,mn,mx,el,ck,ns,nl,sp,A1,n1,c1,A2,n2,c2,pr,A,n,c,rfl,-,-,-,-,-,-,hn,aI⟩:=aW bH;obtain⟨w1,bI,S1,S2,lY,ai⟩:=zP2 w k mn mx el ck ns nl sp A1 n1 c1 A2 n2 c2 pr A n c (Zc #[nE] 3);obtain⟨bv,jS⟩:=zF (p.args.any (rG nE));have HB:Hid (jZ nE p.args=!bv):=zH (by rw[ZH,jS])
 have HC:Hid (Rt 106 #[(A,n,c),.func (.func 107) #[] #[(b3,0),(w.heap.size+1,0)]] w1 bv):=zH (by
  rw[<-jS]
  exact WE b3 (w.heap.size+1) nE p.args A n c w1 _ (aI.below ai) hn (λx hx cs W G mV hX=>ajy nE x (hp x hx) (w.heap.size+1) cs W G b1 b2 b3 b4 gm ((hr.below ai).below mV) (ae S2 mV) hX))
 have q0:=aj S1;clear S1 S2 h bH hr hp jS aI;go_enter func105,ntmps105;go_wp2_with fail;refine HC.mono ?_;rintro e w2 ⟨rfl,ag⟩;go_wp2_with fail;go_ret;exact⟨aK HB.symm,ai.seq ag⟩
theorem oM(a b:Int):(a==b)=decide (a=b):=by rw[m9];simp
theorem afJ{n:Nat}(h:n=m):(((n:Int)==0))=decide (m=0):=by subst h;rw[m9];simp
theorem asc{n:Nat}(h:n=m):decide ((n:Int)<=6)=decide (m<=6):=by subst h;rw[m9];simp;omega
theorem arw(l:List aJ):l.all (λp=>fD p.kind&&decide (1<=p.mx)&&decide (p.mx<=3))=!l.any xP:=by
 induction l with
 | nil=>rfl
 | cons p l ih=>
   rw[List.all_cons,List.any_cons,ih,Bool.not_or]
   congr 1
   unfold xP;cases fD p.kind
   ·rfl
   rw[m9];simp
theorem abm(h:p.kind=1):bT n top p=(decide (0<=p.el)&&decide (p.el<n)&&qm p.cls&&decide (p.pr=0)&&decide (p.args.length=0)):=by
 obtain⟨k,mn,mx,el,c,pr,args⟩:=p;obtain rfl:k=1:=h;rw[bT,j6 rfl];rfl
theorem abn(h:p.kind=2):bT n top p=(decide (p.el=0)&&decide (p.args.length=0)&&decide (1<=p.pr)&&decide (p.pr<=3)&&decide (jF p.cls=0)):=by
 obtain⟨k,mn,mx,el,c,pr,args⟩:=p;obtain rfl:k=2:=h;rw[bT,j5 zD,j6 rfl];rfl
theorem apv(h:p.kind=3):bT n top p=(xh p&&jZ n p.args):=by
 obtain⟨k,mn,mx,el,c,pr,args⟩:=p;obtain rfl:k=3:=h;rw[bT,j5 zD,j5 zD,j6 rfl];rfl
theorem apw(h:p.kind=4):bT n top p=(xh p&&decide (0<p.args.length)&&jZ n p.args):=by
 obtain⟨k,mn,mx,el,c,pr,args⟩:=p;obtain rfl:k=4:=h;rw[bT,j5 zD,j5 zD,j5 zD,j6 rfl];rfl
theorem ahl(h:p.kind=5):bT n top p=(top&&xh p&&decide (p.mn=1)&&decide (p.mx=1)&&decide (0<p.args.length)&&decide (p.args.length<=6)&&jZ n p.args&&!p.args.any xP):=by
 obtain⟨k,mn,mx,el,c,pr,args⟩:=p;obtain rfl:k=5:=h;rw[bT,j5 zD,j5 zD,j5 zD,j5 zD,j6 rfl,arw];rfl
theorem ZI(nE:Int)(top:Bool)(p:aJ)(w:World)(hk:p.kind=1)(cs:List Value)(F:Nat->Prop)(h:au w F (aZ p) cs):
 Rt 108 #[.agg cs.toArray,nE,top] w (bT nE top p):=by
 have bH:=au.here _ _ (jK p) h;obtain⟨k,mn,mx,el,ck,ns,nl,sp,A1,n1,c1,A2,n2,c2,pr,A,n,c,rfl,-,vH,l9,lT,uq,eH,hn,aI⟩:=aW bH;have hlen:n=p.args.length:=(by have:=aI.1;rwa [z8] at this);obtain⟨w1,bI,S1,lY,ai⟩:=zP1 w k mn mx el ck ns nl sp A1 n1 c1 A2 n2 c2 pr A n c;have aQ:=zH S1;obtain⟨e1,BM⟩:=zF (decide (0<=el));obtain⟨e2,DX⟩:=zF (decide (el<nE));obtain⟨bv,jS⟩:=zF (qm p.cls);have QQ:Hid (∀W,Bw w1 W->Rt 103 #[.agg #[ck,ns,nl,sp,(A1,n1,c1),(A2,n2,c2)]] W bv):=zH λW hW=>(by rw[<-jS];exact abX p.cls _ W _ (eH.below (ai.seq hW)));obtain⟨e3,IW⟩:=zF ((pr==0));obtain⟨e4,Uu⟩:=zF (((n:Int)==0));have HF:Hid (bT nE top p=(e1&&e2&&bv&&e3&&e4)):=zH (by rw[abm hk];rw[lT,uq,<-BM,<-DX,jS,<-IW,<-Uu,oM,afJ hlen]);have q0:=aj S1;clear S1 h bH vH l9 lT uq eH aI hlen hk jS;cases e1
 rotate_left 1
 cases e2
 rotate_left 1
 cases bv
 rotate_left 1
 cases e3
 rotate_left 1
 cases e4
 rotate_left 1
 all_goals
  go_enter func108,ntmps108
  go_wp2_with (first | (go_at_call 103;refine (QQ w1 (j9 _ _)).mono ?_;rintro e w2 ⟨rfl,ag⟩;clear q0;have q0:=aj (ae aQ ag)))
  go_ret;exact⟨aK (by rw[HF.out];rfl),by first | exact ai.seq ag | exact ai⟩
theorem ZJ(nE:Int)(top:Bool)(p:aJ)(w:World)(hk:p.kind=2)(cs:List Value)(F:Nat->Prop)(h:au w F (aZ p) cs):
 Rt 109 #[.agg cs.toArray,nE,top] w (bT nE top p):=by
 have bH:=au.here _ _ (jK p) h;obtain⟨k,mn,mx,el,ck,ns,nl,sp,A1,n1,c1,A2,n2,c2,pr,A,n,c,rfl,-,vH,l9,lT,uq,eH,hn,aI⟩:=aW bH;have hlen:n=p.args.length:=(by have:=aI.1;rwa [z8] at this);obtain⟨w1,bI,S1,lY,ai⟩:=zP1 w k mn mx el ck ns nl sp A1 n1 c1 A2 n2 c2 pr A n c;have aQ:=zH S1;obtain⟨e1,BM⟩:=zF ((el==0));obtain⟨e2,DX⟩:=zF (((n:Int)==0));obtain⟨e3,IW⟩:=zF (decide (1<=pr));obtain⟨e4,Uu⟩:=zF (decide (pr<=3));obtain⟨ec,yJ⟩:=zF (jF p.cls);have Vq:Hid (∀W,Bw w1 W->Rt 101 #[.agg #[ck,ns,nl,sp,(A1,n1,c1),(A2,n2,c2)]] W ec):=zH λW hW=>(by rw[<-yJ];exact Fj p.cls _ W _ (eH.below (ai.seq hW)) (Wx _));obtain⟨e5,he5⟩:=zF ((ec==0));have HF:Hid (bT nE top p=(e1&&e2&&e3&&e4&&e5)):=zH (by rw[abn hk];rw[lT,uq,<-BM,<-DX,<-IW,<-Uu,<-he5,<-yJ,oM el 0,afJ hlen,oM (jF p.cls) 0]);have q0:=aj S1;clear S1 h bH vH l9 lT uq eH aI hlen hk yJ;cases e1
 rotate_left 1
 cases e2
 rotate_left 1
 cases e3
 rotate_left 1
 cases e4
 rotate_left 1
 cases e5
 rotate_left 1
 all_goals
  go_enter func109,ntmps109
  go_wp2_with (first | (go_at_call 101;refine (Vq w1 (j9 _ _)).mono ?_;rintro e w2 ⟨rfl,ag⟩;clear q0;have q0:=aj (ae aQ ag)))
  go_ret;exact⟨aK (by rw[HF.out];rfl),by first | exact ai.seq ag | exact ai⟩
theorem ZK(nE:Int)(top:Bool)(p:aJ)(w:World)(hk:p.kind=3)(hx:∀x∈p.args,EE nE x)(b1 b2 b3 b4 gm:Nat)(hr:lL w b1 b2 b3 b4 gm)(cs:List Value)(F:Nat->Prop)(h:au w F (aZ p) cs):
 Rt 110 #[.agg cs.toArray,nE,top,(b2,0),(b4,0)] w (bT nE top p):=by
 have bH:=au.here _ _ (jK p) h;obtain⟨k,mn,mx,el,ck,ns,nl,sp,A1,n1,c1,A2,n2,c2,pr,A,n,c,rfl,-,vH,l9,lT,uq,eH,hn,aI⟩:=aW bH;have hlen:n=p.args.length:=(by have:=aI.1;rwa [z8] at this);obtain⟨w1,bI,S1,lY,ai⟩:=zP1 w k mn mx el ck ns nl sp A1 n1 c1 A2 n2 c2 pr A n c;have aQ:=zH S1;have dX:=zH (hr.below ai);obtain⟨iv,CJ⟩:=zF (xh p);have yS:Hid (∀W,Bw w1 W->Rt 102 #[.agg (o5 k mn mx el ck ns nl sp A1 n1 c1 A2 n2 c2 pr A n c)] W iv):=zH λW hW=>(by rw[<-CJ];exact QH p _ W _ (bH.below (ai.seq hW)));obtain⟨ev,CX⟩:=zF (jZ nE p.args);have NP:Hid (∀W,Bw w1 W->Rt 105 #[.agg (o5 k mn mx el ck ns nl sp A1 n1 c1 A2 n2 c2 pr A n c),nE,(b3,0)] W ev):=zH λW hW=>(by rw[<-CX];exact Vp nE p hx _ W _ b1 b2 b3 b4 gm (hr.below (ai.seq hW)) (bH.below (ai.seq hW)));have HF:Hid (bT nE top p=(iv&&ev)):=zH (by rw[apv hk];rw[CJ,CX]);have q0:=aj S1;obtain⟨-,r2,-,r4,-⟩:=dX.out;have y2:=aO r2;have y4:=aO r4;clear S1 h bH vH l9 lT uq eH aI hlen hk CJ CX hr hx r2 r4;cases iv
 rotate_left 1
 cases ev
 rotate_left 1
 all_goals
  go_enter func110,ntmps110
  go_wp2_with (first | (go_at_call 102;refine (yS w1 (j9 _ _)).mono ?_;rintro e w2 ⟨rfl,ag⟩;clear q0 y2 y4;have q0:=aj (ae aQ ag);have y2:=aO (dX.below ag).2.1;have y4:=aO (dX.below ag).2.2.2.1) | (go_at_call 105;refine (NP w2 ag).mono ?_;rintro e w3 ⟨rfl,az⟩;clear q0 y2 y4;have q0:=aj (ae aQ (ag.seq az));have y2:=aO (dX.below (ag.seq az)).2.1;have y4:=aO (dX.below (ag.seq az)).2.2.2.1))
  go_ret;exact⟨aK (by rw[HF.out];rfl),by first | exact ai.seq (ag.seq az) | exact ai.seq ag | exact ai⟩
theorem ZL(nE:Int)(top:Bool)(p:aJ)(w:World)(hk:p.kind=4)(hx:∀x∈p.args,EE nE x)(b1 b2 b3 b4 gm:Nat)(hr:lL w b1 b2 b3 b4 gm)(cs:List Value)(F:Nat->Prop)(h:au w F (aZ p) cs):
 Rt 111 #[.agg cs.toArray,nE,top,(b2,0),(b4,0)] w (bT nE top p):=by
 have bH:=au.here _ _ (jK p) h;obtain⟨k,mn,mx,el,ck,ns,nl,sp,A1,n1,c1,A2,n2,c2,pr,A,n,c,rfl,-,vH,l9,lT,uq,eH,hn,aI⟩:=aW bH;have hlen:n=p.args.length:=(by have:=aI.1;rwa [z8] at this);obtain⟨w1,bI,S1,lY,ai⟩:=zP1 w k mn mx el ck ns nl sp A1 n1 c1 A2 n2 c2 pr A n c;have aQ:=zH S1;have dX:=zH (hr.below ai);obtain⟨iv,CJ⟩:=zF (xh p);have yS:Hid (∀W,Bw w1 W->Rt 102 #[.agg (o5 k mn mx el ck ns nl sp A1 n1 c1 A2 n2 c2 pr A n c)] W iv):=zH λW hW=>(by rw[<-CJ];exact QH p _ W _ (bH.below (ai.seq hW)));obtain⟨e1,BM⟩:=zF (decide (0<n));obtain⟨ev,CX⟩:=zF (jZ nE p.args);have NP:Hid (∀W,Bw w1 W->Rt 105 #[.agg (o5 k mn mx el ck ns nl sp A1 n1 c1 A2 n2 c2 pr A n c),nE,(b3,0)] W ev):=zH λW hW=>(by rw[<-CX];exact Vp nE p hx _ W _ b1 b2 b3 b4 gm (hr.below (ai.seq hW)) (bH.below (ai.seq hW)));have HF:Hid (bT nE top p=(iv&&e1&&ev)):=zH (by rw[apw hk];rw[CJ,CX,<-BM,hlen]);have q0:=aj S1;obtain⟨-,r2,-,r4,-⟩:=dX.out;have y2:=aO r2;have y4:=aO r4;clear S1 h bH vH l9 lT uq eH aI hlen hk CJ CX hr hx r2 r4;cases iv
 rotate_left 1
 cases e1
 rotate_left 1
 cases ev
 rotate_left 1
 all_goals
  go_enter func111,ntmps111
  go_wp2_with (first | (go_at_call 102;refine (yS w1 (j9 _ _)).mono ?_;rintro e w2 ⟨rfl,ag⟩;clear q0 y2 y4;have q0:=aj (ae aQ ag);have y2:=aO (dX.below ag).2.1;have y4:=aO (dX.below ag).2.2.2.1) | (go_at_call 105;refine (NP w2 ag).mono ?_;rintro e w3 ⟨rfl,az⟩;clear q0 y2 y4;have q0:=aj (ae aQ (ag.seq az));have y2:=aO (dX.below (ag.seq az)).2.1;have y4:=aO (dX.below (ag.seq az)).2.2.2.1))
  go_ret;exact⟨aK (by rw[HF.out];rfl),by first | exact ai.seq (ag.seq az) | exact ai.seq ag | exact ai⟩
theorem ZM(nE:Int)(top:Bool)(p:aJ)(w:World)(hk:p.kind=5)(hx:∀x∈p.args,EE nE x)(b1 b2 b3 b4 gm:Nat)(hr:lL w b1 b2 b3 b4 gm)(cs:List Value)(F:Nat->Prop)(h:au w F (aZ p) cs):
 Rt 112 #[.agg cs.toArray,nE,top,(b2,0),(b4,0)] w (bT nE top p):=by
 have bH:=au.here _ _ (jK p) h;obtain⟨k,mn,mx,el,ck,ns,nl,sp,A1,n1,c1,A2,n2,c2,pr,A,n,c,rfl,-,vH,l9,lT,uq,eH,hn,aI⟩:=aW bH;have hlen:n=p.args.length:=(by have:=aI.1;rwa [z8] at this);obtain⟨w1,bI,S1,lY,ai⟩:=zP1 w k mn mx el ck ns nl sp A1 n1 c1 A2 n2 c2 pr A n c;have aQ:=zH S1;have dX:=zH (hr.below ai);obtain⟨iv,CJ⟩:=zF (xh p);have yS:Hid (∀W,Bw w1 W->Rt 102 #[.agg (o5 k mn mx el ck ns nl sp A1 n1 c1 A2 n2 c2 pr A n c)] W iv):=zH λW hW=>(by rw[<-CJ];exact QH p _ W _ (bH.below (ai.seq hW)));obtain⟨e1,BM⟩:=zF ((mn==1));obtain⟨e2,DX⟩:=zF ((mx==1));obtain⟨e3,IW⟩:=zF (decide (0<n));obtain⟨e4,Uu⟩:=zF (decide ((n:Int)<=6));obtain⟨ev,CX⟩:=zF (jZ nE p.args);have NP:Hid (∀W,Bw w1 W->Rt 105 #[.agg (o5 k mn mx el ck ns nl sp A1 n1 c1 A2 n2 c2 pr A n c),nE,(b3,0)] W ev):=zH λW hW=>(by rw[<-CX];exact Vp nE p hx _ W _ b1 b2 b3 b4 gm (hr.below (ai.seq hW)) (bH.below (ai.seq hW)));obtain⟨ov,vP⟩:=zF (p.args.any xP);have ase:Hid (∀W,Bw w1 W->Rt 106 #[(A,n,c),.func (.func 113) #[] #[]] W ov):=zH λW hW=>(by rw[<-vP];exact WC p.args A n c W _ (aI.below (ai.seq hW)) hn (λx _ cs W2 G _ hX=>ars x cs W2 G hX));have HF:Hid (bT nE top p=(top&&iv&&e1&&e2&&e3&&e4&&ev&&!ov)):=zH (by rw[ahl hk];rw[CJ,CX,vP,vH,l9,<-BM,<-DX,<-IW,<-Uu,oM,oM,asc hlen,hlen]);have q0:=aj S1;obtain⟨-,r2,-,r4,-⟩:=dX.out;have y2:=aO r2;have y4:=aO r4;clear S1 h bH vH l9 lT uq eH aI hlen hk CJ CX vP hr hx r2 r4;cases top
 rotate_left 1
 cases iv
 rotate_left 1
 cases e1
 rotate_left 1
 cases e2
 rotate_left 1
 cases e3
 rotate_left 1
 cases e4
 rotate_left 1
 cases ev
 rotate_left 1
 cases ov
 all_goals
  go_enter func112,ntmps112
  go_wp2_with (first | (go_at_call 102;refine (yS w1 (j9 _ _)).mono ?_;rintro e w2 ⟨rfl,ag⟩;clear q0 y2 y4;have q0:=aj (ae aQ ag);have y2:=aO (dX.below ag).2.1;have y4:=aO (dX.below ag).2.2.2.1) | (go_at_call 105;refine (NP w2 ag).mono ?_;rintro e w3 ⟨rfl,az⟩;clear q0 y2 y4;have q0:=aj (ae aQ (ag.seq az));have y2:=aO (dX.below (ag.seq az)).2.1;have y4:=aO (dX.below (ag.seq az)).2.2.2.1) | (go_at_call 106;refine (ase w3 (ag.seq az)).mono ?_;rintro e w4 ⟨rfl,aX⟩;clear q0 y2 y4;have q0:=aj (ae aQ ((ag.seq az).seq aX));have y2:=aO (dX.below ((ag.seq az).seq aX)).2.1;have y4:=aO (dX.below ((ag.seq az).seq aX)).2.2.2.1))
  go_ret;exact⟨aK (by rw[HF.out];rfl),by first | exact ai.seq ((ag.seq az).seq aX) | exact ai.seq (ag.seq az) | exact ai.seq ag | exact ai⟩
