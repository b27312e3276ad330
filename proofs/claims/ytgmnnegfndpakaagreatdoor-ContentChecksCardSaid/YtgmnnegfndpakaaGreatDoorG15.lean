import Derived.Test.YtgmnnegfndpakaaGreatDoorG11
set_option maxHeartbeats 20000000
set_option maxRecDepth 100000
namespace Go.Proofs.YtgmnnegfndpakaaGreatDoor
open Go.RowKit
mutual
def bT(n:Int):Bool->aJ->Bool
 | top,.mk k mn mx el c pr args=>
   if k=1 then decide (0<=el)&&decide (el<n)&&qm c&&decide (pr=0)&&decide (args.length=0)
   else if k=2 then decide (el=0)&&decide (args.length=0)&&decide (1<=pr)&&decide (pr<=3)&&decide (jF c=0)
   else if k=3 then (decide (el=0)&&qm c&&decide (pr=0))&&jZ n args
   else if k=4 then (decide (el=0)&&qm c&&decide (pr=0))&&decide (0<args.length)&&jZ n args
   else if k=5 then top&&(decide (el=0)&&qm c&&decide (pr=0))&&decide (mn=1)&&decide (mx=1)&&decide (0<args.length)&&decide (args.length<=6)&&jZ n args&&args.all (λp=>fD p.kind&&decide (1<=p.mx)&&decide (p.mx<=3))
   else false
def jZ(n:Int):List aJ->Bool
 | []=>true
 | p::l=>(bU p.mn p.mx&&bT n false p)&&jZ n l
end
def xh(p:aJ):Bool:=decide (p.el=0)&&qm p.cls&&decide (p.pr=0)
def xP(p:aJ):Bool:=!fD p.kind||decide (p.mx<1)||decide (3<p.mx)
def rG(n:Int)(p:aJ):Bool:=!(bU p.mn p.mx&&bT n false p)
theorem amz{v:Bool}(cl:aT)(cs:List Value)(w:World)(F:Nat->Prop)(h:dA w F cl cs)(hv:qm cl=v):
 Rt 103 #[.agg cs.toArray] w (.bool v):=by subst hv;exact abX cl cs w F h
theorem nM{v:Bool}(p:aJ)(cs:List Value)(w:World)(F:Nat->Prop)(h:au w F (aZ p) cs)(hv:bU p.mn p.mx=v):
 Rt 51 #[.agg cs.toArray] w (.bool v):=by subst hv;exact aeY p cs w F h
theorem QH(p:aJ)(cs:List Value)(w:World)(F:Nat->Prop)(h:au w F (aZ p) cs):
 Rt 102 #[.agg cs.toArray] w (.bool (xh p)):=by
 obtain⟨k,mn,mx,el,ck,ns,nl,sp,A1,n1,c1,A2,n2,c2,pr,A,n,c,rfl,-,-,-,lT,uq,eH,-⟩:=aW (au.here _ _ (jK p) h);obtain⟨w1,bI,S1,lY,ai⟩:=af w (.cells #[.int .i64 k,.int .i64 mn,.int .i64 mx,.int .i64 el,.int .i64 ck,.string ns,.string nl,.string sp,.slice A1 n1 c1,.slice A2 n2 c2,.int .i64 pr,.slice A n c] 29);obtain⟨bv,jS⟩:=zF (qm p.cls);have HB:Hid (xh p=(decide (el=0)&&bv&&decide (pr=0))):=zH (by unfold xh;rw[lT,uq,jS]);have HC:Hid (Rt 103 #[.agg #[.int .i64 ck,.string ns,.string nl,.string sp,.slice A1 n1 c1,.slice A2 n2 c2]] w1 (.bool bv)):=zH (amz p.cls _ w1 _ (eH.below ai) jS);have aQ:=zH S1;have q0:=aj S1;clear S1 h lT uq eH jS;by_cases he:el=0
 ·have hd:(el==0)=true:=by simpa using he
  have O0:=zH he;clear he;go_enter Tryz.func102,Tryz.ntmps102;go_wp2_with fail;refine HC.out.mono ?_;rintro e w2 ⟨rfl,ag⟩;clear q0;have q0:=aj (ae aQ.out ag);cases bv
  all_goals
   go_wp2_with fail;go_ret;refine⟨aK ?_,ai.seq ag⟩;rw[HB.out,O0.out]
   first | rfl | (simp;done) | (rw[Bool.eq_iff_iff];simp)
 ·have hd:(el==0)=false:=by simpa using he
  have O0:=zH he;clear he;go_enter Tryz.func102,Tryz.ntmps102;go_wp2_with fail;go_ret;exact⟨aK (by rw[HB.out];simp[O0.out]),ai⟩
theorem ars(p:aJ)(cs:List Value)(w:World)(F:Nat->Prop)(h:au w F (aZ p) cs):
 Rt 113 #[.agg cs.toArray] w (.bool (xP p)):=by
 have bH:=au.here _ _ (jK p) h;obtain⟨k,mn,mx,el,ck,ns,nl,sp,A1,n1,c1,A2,n2,c2,pr,A,n,c,rfl,-,-,l9,-⟩:=aW bH;obtain⟨w1,bI,S1,lY,ai⟩:=af w (.cells #[.int .i64 k,.int .i64 mn,.int .i64 mx,.int .i64 el,.int .i64 ck,.string ns,.string nl,.string sp,.slice A1 n1 c1,.slice A2 n2 c2,.int .i64 pr,.slice A n c] 29);obtain⟨bv,jS⟩:=zF (fD p.kind);have HB:Hid (xP p=(!bv||decide (mx<1)||decide (3<mx))):=zH (by unfold xP;rw[l9,jS]);have HC:Hid (Rt 114 #[.agg (o5 k mn mx el ck ns nl sp A1 n1 c1 A2 n2 c2 pr A n c)] w1 (.bool bv)):=zH (ab1 p _ w1 _ (bH.below ai) jS);have aQ:=zH S1;have q0:=aj S1;clear S1 h bH l9 jS;go_enter Tryz.func113,Tryz.ntmps113;go_wp2_with fail;refine HC.out.mono ?_;rintro e w2 ⟨rfl,ag⟩;clear q0;have q0:=aj (ae aQ.out ag);cases bv
 all_goals
  go_wp2_with fail
  all_goals
   go_ret;refine⟨aK ?_,ai.seq ag⟩;rw[HB.out]
   first | rfl | (simp[*];done) | (rw[Bool.eq_iff_iff];simp[*];omega)
theorem ahg(l:List aJ)(A:Option Addr)(n c:Nat)(w:World)(F:Nat->Prop)(bQ:bM w F 12 (l.map aZ) A n)(hn:n<6000000000000)
 (eH:∀p∈l,∀(cs:List Value) (W:World) (G:Nat->Prop),Bw w W->au W G (aZ p) cs->Rt 113 #[.agg cs.toArray] W (.bool (xP p))):
 Rt 162 #[.slice A n c,.func (.func 113) #[] #[]] w (.int .i64 (kE xP l 0)):=by
 have aI:=bM.here bQ (TE l);have HN:Hid (n=l.length):=zH (by have:=aI.1;rwa [z8] at this);have vJ:=zH eH;clear bQ eH;go_enter Tryz.func162,Tryz.ntmps162;go_wp2_with fail
 go_loopw [8] (λsi wr=>∃i:Nat,i<=n/\si= .int .i64 i/\Hid (kE xP l 0=kE xP (l.drop i) i)/\Bw w wr)
  (λsi _=>n - (intOf si).toNat)
 case atStart=>exact⟨0,zO,rfl,zH rfl,Below.refl _ _⟩
 case round=>
  obtain⟨i,hi,rfl,HL,aH⟩:=hrel;by_cases aN:i<n
  ·obtain⟨b,off,px,v0,v1,v2,v3,v4,v5,v6,v7,v8,v9,v10,v11,HX,eG,z0,z1,z2,z3,z4,z5,z6,z7,z8,z9,nZ,og,dO⟩:=(aI.below aH).DW aN c
   have hd:decide (i<n)=true:=(by simp;omega);obtain⟨v,hv⟩:=zF (xP px);have HS:=zH (yL (p:=xP) HX.out);rw[hv] at HS;have HC:Hid (Rt 113 #[.agg #[v0,v1,v2,v3,v4,v5,v6,v7,v8,v9,v10,v11]] wr (.bool v)):=zH (by rw[<-hv];exact vJ.out px (z13 HX.out) _ wr _ aH eG);clear hv eG;cases v
   ·go_wp2_with fail
    refine HC.out.mono ?_;rintro e w3 ⟨rfl,az⟩;go_wp2_with fail;go_roundw
    case rel=>exact⟨i+1,zO,by go_num,zH (by rw[HL.out,HS.out];rfl),aH.trans (az.mono aH.size)⟩
    case measure=>simp[intOf];omega
   ·go_wp2_with fail
    refine HC.out.mono ?_;rintro e w3 ⟨rfl,az⟩;go_wp2_with fail;go_ret;exact⟨iU (by rw[HL.out,HS.out];rfl),aH.trans (az.mono aH.size)⟩
  ·have hd:decide (i<n)=false:=by simp;omega
   have HE:Hid (l.drop i=[]):=zH (z14 (by have:=HN.out;omega));go_wp2_with fail;go_ret;exact⟨iU (by rw[HL.out,HE.out,kE]),aH⟩
theorem WC(l:List aJ)(A:Option Addr)(n c:Nat)(w:World)(F:Nat->Prop)(bQ:bM w F 12 (l.map aZ) A n)(hn:n<6000000000000)
 (eH:∀p∈l,∀(cs:List Value) (W:World) (G:Nat->Prop),Bw w W->au W G (aZ p) cs->Rt 113 #[.agg cs.toArray] W (.bool (xP p))):
 Rt 106 #[.slice A n c,.func (.func 113) #[] #[]] w (.bool (l.any xP)):=by
 have HC:=zH (ahg l A n c w F bQ hn eH);have HR:=zH (tY xP l 0);clear bQ eH;go_enter Tryz.func106,Tryz.ntmps106;go_wp2_with fail;refine HC.out.mono ?_;rintro e w2 ⟨rfl,ag⟩;go_wp2_with fail;go_ret;exact⟨aK HR.out,ag⟩
theorem ahh(b3 be:Nat)(nE:Int)(l:List aJ)(A:Option Addr)(n c:Nat)(w:World)(F:Nat->Prop)(bQ:bM w F 12 (l.map aZ) A n)(hn:n<6000000000000)
 (eH:∀p∈l,∀(cs:List Value) (W:World) (G:Nat->Prop),Bw w W->au W G (aZ p) cs->Rt 107 #[.agg cs.toArray,.pointer (some ⟨b3,0,none⟩),.pointer (some ⟨be,0,none⟩)] W (.bool ((rG nE) p))):
 Rt 162 #[.slice A n c,.func (.func 107) #[] #[.pointer (some ⟨b3,0,none⟩),.pointer (some ⟨be,0,none⟩)]] w (.int .i64 (kE (rG nE) l 0)):=by
 have aI:=bM.here bQ (TE l);have HN:Hid (n=l.length):=zH (by have:=aI.1;rwa [z8] at this);have vJ:=zH eH;clear bQ eH;go_enter Tryz.func162,Tryz.ntmps162;go_wp2_with fail
 go_loopw [8] (λsi wr=>∃i:Nat,i<=n/\si= .int .i64 i/\Hid (kE (rG nE) l 0=kE (rG nE) (l.drop i) i)/\Bw w wr)
  (λsi _=>n - (intOf si).toNat)
 case atStart=>exact⟨0,zO,rfl,zH rfl,Below.refl _ _⟩
 case round=>
  obtain⟨i,hi,rfl,HL,aH⟩:=hrel;by_cases aN:i<n
  ·obtain⟨b,off,px,v0,v1,v2,v3,v4,v5,v6,v7,v8,v9,v10,v11,HX,eG,z0,z1,z2,z3,z4,z5,z6,z7,z8,z9,nZ,og,dO⟩:=(aI.below aH).DW aN c
   have hd:decide (i<n)=true:=(by simp;omega);obtain⟨v,hv⟩:=zF ((rG nE) px);have HS:=zH (yL (p:=(rG nE)) HX.out);rw[hv] at HS;have HC:Hid (Rt 107 #[.agg #[v0,v1,v2,v3,v4,v5,v6,v7,v8,v9,v10,v11],.pointer (some ⟨b3,0,none⟩),.pointer (some ⟨be,0,none⟩)] wr (.bool v)):=zH (by rw[<-hv];exact vJ.out px (z13 HX.out) _ wr _ aH eG);clear hv eG;cases v
   ·go_wp2_with fail
    refine HC.out.mono ?_;rintro e w3 ⟨rfl,az⟩;go_wp2_with fail;go_roundw
    case rel=>exact⟨i+1,zO,by go_num,zH (by rw[HL.out,HS.out];rfl),aH.trans (az.mono aH.size)⟩
    case measure=>simp[intOf];omega
   ·go_wp2_with fail
    refine HC.out.mono ?_;rintro e w3 ⟨rfl,az⟩;go_wp2_with fail;go_ret;exact⟨iU (by rw[HL.out,HS.out];rfl),aH.trans (az.mono aH.size)⟩
  ·have hd:decide (i<n)=false:=by simp;omega
   have HE:Hid (l.drop i=[]):=zH (z14 (by have:=HN.out;omega));go_wp2_with fail;go_ret;exact⟨iU (by rw[HL.out,HE.out,kE]),aH⟩
theorem WE(b3 be:Nat)(nE:Int)(l:List aJ)(A:Option Addr)(n c:Nat)(w:World)(F:Nat->Prop)(bQ:bM w F 12 (l.map aZ) A n)(hn:n<6000000000000)
 (eH:∀p∈l,∀(cs:List Value) (W:World) (G:Nat->Prop),Bw w W->au W G (aZ p) cs->Rt 107 #[.agg cs.toArray,.pointer (some ⟨b3,0,none⟩),.pointer (some ⟨be,0,none⟩)] W (.bool ((rG nE) p))):
 Rt 106 #[.slice A n c,.func (.func 107) #[] #[.pointer (some ⟨b3,0,none⟩),.pointer (some ⟨be,0,none⟩)]] w (.bool (l.any (rG nE))):=by
 have HC:=zH (ahh b3 be nE l A n c w F bQ hn eH);have HR:=zH (tY (rG nE) l 0);clear bQ eH;go_enter Tryz.func106,Tryz.ntmps106;go_wp2_with fail;refine HC.out.mono ?_;rintro e w2 ⟨rfl,ag⟩;go_wp2_with fail;go_ret;exact⟨aK HR.out,ag⟩
def WT(v:Value):Value:=.agg #[v]
def ZG(b2 b4:Nat):List (Int×Value):=[(1,.func (.func 108) #[] #[]),(2,.func (.func 109) #[] #[]),(3,.func (.func 110) #[] #[.pointer (some ⟨b2,0,none⟩),.pointer (some ⟨b4,0,none⟩)]),(4,.func (.func 111) #[] #[.pointer (some ⟨b2,0,none⟩),.pointer (some ⟨b4,0,none⟩)]),(5,.func (.func 112) #[] #[.pointer (some ⟨b2,0,none⟩),.pointer (some ⟨b4,0,none⟩)])]
def lL(w:World)(b1 b2 b3 b4 gm:Nat):Prop:=
 w.heap[b1]?=some (.cells #[.map (some gm)] 88)/\w.heap[b2]?=some (.cells #[.func (.func 102) #[] #[]] 35)/\w.heap[b3]?=some (.cells #[.func (.func 104) #[] #[.pointer (some ⟨b1,0,none⟩)]] 71)/\
 w.heap[b4]?=some (.cells #[.func (.func 105) #[] #[.pointer (some ⟨b3,0,none⟩)]] 71)/\gQ w gm vM WT (ZG b2 b4)
theorem lL.below{w w':World}{b1 b2 b3 b4 gm:Nat}(h:lL w b1 b2 b3 b4 gm)(hb:Bw w w'):lL w' b1 b2 b3 b4 gm:=
 ⟨ae h.1 hb,ae h.2.1 hb,ae h.2.2.1 hb,ae h.2.2.2.1 hb,h.2.2.2.2.below hb⟩
def EE(n:Int)(p:aJ):Prop:=∀(cs:List Value) (w:World) (F:Nat->Prop) (b1 b2 b3 b4 gm:Nat),lL w b1 b2 b3 b4 gm->au w F (aZ p) cs->
 Calls Tryz.prog 104 #[.agg cs.toArray,.int .i64 n,.pointer (some ⟨b1,0,none⟩)] w λe w'=>e= .returned (.bool (bU p.mn p.mx&&bT n false p))/\Bw w w'
theorem ZH(n:Int):∀l:List aJ,jZ n l=!(l.any (rG n))
 | []=>by rw[jZ];rfl
 | p::l=>by rw[jZ,ZH n l,List.any_cons,Bool.not_or];unfold rG;rw[Bool.not_not]
theorem ajy(nE:Int)(p:aJ)(hp:EE nE p)(be:Nat)(cs:List Value)(w:World)(F:Nat->Prop)(b1 b2 b3 b4 gm:Nat)(hr:lL w b1 b2 b3 b4 gm)(jm:w.heap[be]?=some (.cells #[.int .i64 nE] 3))(h:au w F (aZ p) cs):
 Rt 107 #[.agg cs.toArray,.pointer (some ⟨b3,0,none⟩),.pointer (some ⟨be,0,none⟩)] w (.bool (rG nE p)):=by
 have bH:=au.here _ _ (jK p) h;obtain⟨k,mn,mx,el,ck,ns,nl,sp,A1,n1,c1,A2,n2,c2,pr,A,n,c,rfl,-⟩:=aW bH;obtain⟨w1,bI,S1,lY,ai⟩:=af w (.cells #[.int .i64 k,.int .i64 mn,.int .i64 mx,.int .i64 el,.int .i64 ck,.string ns,.string nl,.string sp,.slice A1 n1 c1,.slice A2 n2 c2,.int .i64 pr,.slice A n c] 29);obtain⟨bv,jS⟩:=zF ((bU p.mn p.mx&&bT nE false p));have HB:Hid (rG nE p=!bv):=zH (by unfold rG;rw[jS]);have HC:Hid (Rt 104 #[.agg (o5 k mn mx el ck ns nl sp A1 n1 c1 A2 n2 c2 pr A n c),.int .i64 nE,.pointer (some ⟨b1,0,none⟩)] w1 (.bool bv)):=zH (by rw[<-jS];exact hp _ w1 _ b1 b2 b3 b4 gm (hr.below ai) (bH.below ai));have y3:=aO (ae hr.2.2.1 ai);have ye:=aO (ae jm ai);have q0:=aj S1;clear S1 h bH hr hp jm jS;go_enter Tryz.func107,Tryz.ntmps107;go_wp2_with fail;refine HC.out.mono ?_;rintro e w2 ⟨rfl,ag⟩;go_wp2_with fail;go_ret;exact⟨aK HB.out.symm,ai.seq ag⟩
theorem Vp(nE:Int)(p:aJ)(hp:∀x∈p.args,EE nE x)(cs:List Value)(w:World)(F:Nat->Prop)(b1 b2 b3 b4 gm:Nat)(hr:lL w b1 b2 b3 b4 gm)(h:au w F (aZ p) cs):
 Rt 105 #[.agg cs.toArray,.int .i64 nE,.pointer (some ⟨b3,0,none⟩)] w (.bool (jZ nE p.args)):=by
 have bH:=au.here _ _ (jK p) h;obtain⟨k,mn,mx,el,ck,ns,nl,sp,A1,n1,c1,A2,n2,c2,pr,A,n,c,rfl,-,-,-,-,-,-,hn,aI⟩:=aW bH;obtain⟨w1,bI,S1,S2,lY,ai⟩:=ed w (.cells #[.int .i64 k,.int .i64 mn,.int .i64 mx,.int .i64 el,.int .i64 ck,.string ns,.string nl,.string sp,.slice A1 n1 c1,.slice A2 n2 c2,.int .i64 pr,.slice A n c] 29) (.cells #[.int .i64 nE] 3);obtain⟨bv,jS⟩:=zF (p.args.any (rG nE));have HB:Hid (jZ nE p.args=!bv):=zH (by rw[ZH,jS])
 have HC:Hid (Rt 106 #[.slice A n c,.func (.func 107) #[] #[.pointer (some ⟨b3,0,none⟩),.pointer (some ⟨w.heap.size+1,0,none⟩)]] w1 (.bool bv)):=zH (by
  rw[<-jS]
  exact WE b3 (w.heap.size+1) nE p.args A n c w1 _ (aI.below ai) hn (λx hx cs W G mV hX=>ajy nE x (hp x hx) (w.heap.size+1) cs W G b1 b2 b3 b4 gm ((hr.below ai).below mV) (ae S2 mV) hX))
 have q0:=aj S1;clear S1 S2 h bH hr hp jS aI;go_enter Tryz.func105,Tryz.ntmps105;go_wp2_with fail;refine HC.out.mono ?_;rintro e w2 ⟨rfl,ag⟩;go_wp2_with fail;go_ret;exact⟨aK HB.out.symm,ai.seq ag⟩
theorem oM(a b:Int):(a==b)=decide (a=b):=by rw[Bool.eq_iff_iff];simp
theorem afJ{n m:Nat}(h:n=m):(((n:Int)==0))=decide (m=0):=by subst h;rw[Bool.eq_iff_iff];simp
theorem asc{n m:Nat}(h:n=m):decide ((n:Int)<=6)=decide (m<=6):=by subst h;rw[Bool.eq_iff_iff];simp;omega
theorem arw(l:List aJ):l.all (λp=>fD p.kind&&decide (1<=p.mx)&&decide (p.mx<=3))=!l.any xP:=by
 induction l with
 | nil=>rfl
 | cons p l ih=>
   rw[List.all_cons,List.any_cons,ih,Bool.not_or]
   congr 1
   unfold xP;cases fD p.kind
   ·rfl
   ·rw[Bool.eq_iff_iff];simp
theorem abm{n:Int}{top:Bool}{p:aJ}(h:p.kind=1):bT n top p=(decide (0<=p.el)&&decide (p.el<n)&&qm p.cls&&decide (p.pr=0)&&decide (p.args.length=0)):=by
 obtain⟨k,mn,mx,el,c,pr,args⟩:=p;obtain rfl:k=1:=h;rw[bT,if_pos rfl];rfl
theorem abn{n:Int}{top:Bool}{p:aJ}(h:p.kind=2):bT n top p=(decide (p.el=0)&&decide (p.args.length=0)&&decide (1<=p.pr)&&decide (p.pr<=3)&&decide (jF p.cls=0)):=by
 obtain⟨k,mn,mx,el,c,pr,args⟩:=p;obtain rfl:k=2:=h;rw[bT,if_neg zD,if_pos rfl];rfl
theorem apv{n:Int}{top:Bool}{p:aJ}(h:p.kind=3):bT n top p=(xh p&&jZ n p.args):=by
 obtain⟨k,mn,mx,el,c,pr,args⟩:=p;obtain rfl:k=3:=h;rw[bT,if_neg zD,if_neg zD,if_pos rfl];rfl
theorem apw{n:Int}{top:Bool}{p:aJ}(h:p.kind=4):bT n top p=(xh p&&decide (0<p.args.length)&&jZ n p.args):=by
 obtain⟨k,mn,mx,el,c,pr,args⟩:=p;obtain rfl:k=4:=h;rw[bT,if_neg zD,if_neg zD,if_neg zD,if_pos rfl];rfl
theorem ahl{n:Int}{top:Bool}{p:aJ}(h:p.kind=5):bT n top p=(top&&xh p&&decide (p.mn=1)&&decide (p.mx=1)&&decide (0<p.args.length)&&decide (p.args.length<=6)&&jZ n p.args&&!p.args.any xP):=by
 obtain⟨k,mn,mx,el,c,pr,args⟩:=p;obtain rfl:k=5:=h;rw[bT,if_neg zD,if_neg zD,if_neg zD,if_neg zD,if_pos rfl,arw];rfl
theorem ZI(nE:Int)(top:Bool)(p:aJ)(w:World)(hk:p.kind=1)(cs:List Value)(F:Nat->Prop)(h:au w F (aZ p) cs):
 Rt 108 #[.agg cs.toArray,.int .i64 nE,.bool top] w (.bool (bT nE top p)):=by
 have bH:=au.here _ _ (jK p) h;obtain⟨k,mn,mx,el,ck,ns,nl,sp,A1,n1,c1,A2,n2,c2,pr,A,n,c,rfl,-,vH,l9,lT,uq,eH,hn,aI⟩:=aW bH
 have hlen:n=p.args.length:=by have:=aI.1;rwa [z8] at this
 obtain⟨w1,bI,S1,lY,ai⟩:=af w (.cells #[.int .i64 k,.int .i64 mn,.int .i64 mx,.int .i64 el,.int .i64 ck,.string ns,.string nl,.string sp,.slice A1 n1 c1,.slice A2 n2 c2,.int .i64 pr,.slice A n c] 29);have aQ:=zH S1;obtain⟨e1,BM⟩:=zF (decide (0<=el));obtain⟨e2,DX⟩:=zF (decide (el<nE));obtain⟨bv,jS⟩:=zF (qm p.cls)
 have QQ:Hid (∀W,Bw w1 W->Rt 103 #[.agg #[.int .i64 ck,.string ns,.string nl,.string sp,.slice A1 n1 c1,.slice A2 n2 c2]] W (.bool bv)):=zH λW hW=>by rw[<-jS];exact abX p.cls _ W _ (eH.below (ai.seq hW))
 obtain⟨e3,IW⟩:=zF ((pr==0));obtain⟨e4,Uu⟩:=zF (((n:Int)==0));have HF:Hid (bT nE top p=(e1&&e2&&bv&&e3&&e4)):=zH (by rw[abm hk];rw[lT,uq,<-BM,<-DX,jS,<-IW,<-Uu,oM,afJ hlen]);have q0:=aj S1;clear S1 h bH vH l9 lT uq eH aI hlen hk jS;cases e1
 ·go_enter Tryz.func108,Tryz.ntmps108
  go_wp2_with fail;go_ret;exact⟨aK (by rw[HF.out];rfl),ai⟩
 cases e2
 ·go_enter Tryz.func108,Tryz.ntmps108
  go_wp2_with fail;go_ret;exact⟨aK (by rw[HF.out];rfl),ai⟩
 cases bv
 ·go_enter Tryz.func108,Tryz.ntmps108
  go_wp2_with fail;refine (QQ.out w1 (Below.refl _ _)).mono ?_;rintro e w2 ⟨rfl,ag⟩;clear q0;have q0:=aj (ae aQ.out ag);go_wp2_with fail;go_ret;exact⟨aK (by rw[HF.out];rfl),ai.seq ag⟩
 cases e3
 ·go_enter Tryz.func108,Tryz.ntmps108
  go_wp2_with fail;refine (QQ.out w1 (Below.refl _ _)).mono ?_;rintro e w2 ⟨rfl,ag⟩;clear q0;have q0:=aj (ae aQ.out ag);go_wp2_with fail;go_ret;exact⟨aK (by rw[HF.out];rfl),ai.seq ag⟩
 cases e4
 ·go_enter Tryz.func108,Tryz.ntmps108
  go_wp2_with fail;refine (QQ.out w1 (Below.refl _ _)).mono ?_;rintro e w2 ⟨rfl,ag⟩;clear q0;have q0:=aj (ae aQ.out ag);go_wp2_with fail;go_ret;exact⟨aK (by rw[HF.out];rfl),ai.seq ag⟩
 go_enter Tryz.func108,Tryz.ntmps108;go_wp2_with fail;refine (QQ.out w1 (Below.refl _ _)).mono ?_;rintro e w2 ⟨rfl,ag⟩;clear q0;have q0:=aj (ae aQ.out ag);go_wp2_with fail;go_ret;exact⟨aK (by rw[HF.out];rfl),ai.seq ag⟩
theorem ZJ(nE:Int)(top:Bool)(p:aJ)(w:World)(hk:p.kind=2)(cs:List Value)(F:Nat->Prop)(h:au w F (aZ p) cs):
 Rt 109 #[.agg cs.toArray,.int .i64 nE,.bool top] w (.bool (bT nE top p)):=by
 have bH:=au.here _ _ (jK p) h;obtain⟨k,mn,mx,el,ck,ns,nl,sp,A1,n1,c1,A2,n2,c2,pr,A,n,c,rfl,-,vH,l9,lT,uq,eH,hn,aI⟩:=aW bH
 have hlen:n=p.args.length:=by have:=aI.1;rwa [z8] at this
 obtain⟨w1,bI,S1,lY,ai⟩:=af w (.cells #[.int .i64 k,.int .i64 mn,.int .i64 mx,.int .i64 el,.int .i64 ck,.string ns,.string nl,.string sp,.slice A1 n1 c1,.slice A2 n2 c2,.int .i64 pr,.slice A n c] 29);have aQ:=zH S1;obtain⟨e1,BM⟩:=zF ((el==0));obtain⟨e2,DX⟩:=zF (((n:Int)==0));obtain⟨e3,IW⟩:=zF (decide (1<=pr));obtain⟨e4,Uu⟩:=zF (decide (pr<=3));obtain⟨ec,yJ⟩:=zF (jF p.cls)
 have Vq:Hid (∀W,Bw w1 W->Rt 101 #[.agg #[.int .i64 ck,.string ns,.string nl,.string sp,.slice A1 n1 c1,.slice A2 n2 c2]] W (.int .i64 ec)):=zH λW hW=>by rw[<-yJ];exact Fj p.cls _ W _ (eH.below (ai.seq hW)) (Wx _)
 obtain⟨e5,he5⟩:=zF ((ec==0));have HF:Hid (bT nE top p=(e1&&e2&&e3&&e4&&e5)):=zH (by rw[abn hk];rw[lT,uq,<-BM,<-DX,<-IW,<-Uu,<-he5,<-yJ,oM el 0,afJ hlen,oM (jF p.cls) 0]);have q0:=aj S1;clear S1 h bH vH l9 lT uq eH aI hlen hk yJ;cases e1
 ·go_enter Tryz.func109,Tryz.ntmps109
  go_wp2_with fail;go_ret;exact⟨aK (by rw[HF.out];rfl),ai⟩
 cases e2
 ·go_enter Tryz.func109,Tryz.ntmps109
  go_wp2_with fail;go_ret;exact⟨aK (by rw[HF.out];rfl),ai⟩
 cases e3
 ·go_enter Tryz.func109,Tryz.ntmps109
  go_wp2_with fail;go_ret;exact⟨aK (by rw[HF.out];rfl),ai⟩
 cases e4
 ·go_enter Tryz.func109,Tryz.ntmps109
  go_wp2_with fail;go_ret;exact⟨aK (by rw[HF.out];rfl),ai⟩
 cases e5
 ·go_enter Tryz.func109,Tryz.ntmps109
  go_wp2_with fail;refine (Vq.out w1 (Below.refl _ _)).mono ?_;rintro e w2 ⟨rfl,ag⟩;clear q0;have q0:=aj (ae aQ.out ag);go_wp2_with fail;go_ret;exact⟨aK (by rw[HF.out];rfl),ai.seq ag⟩
 go_enter Tryz.func109,Tryz.ntmps109;go_wp2_with fail;refine (Vq.out w1 (Below.refl _ _)).mono ?_;rintro e w2 ⟨rfl,ag⟩;clear q0;have q0:=aj (ae aQ.out ag);go_wp2_with fail;go_ret;exact⟨aK (by rw[HF.out];rfl),ai.seq ag⟩
theorem ZK(nE:Int)(top:Bool)(p:aJ)(w:World)(hk:p.kind=3)(hx:∀x∈p.args,EE nE x)(b1 b2 b3 b4 gm:Nat)(hr:lL w b1 b2 b3 b4 gm)(cs:List Value)(F:Nat->Prop)(h:au w F (aZ p) cs):
 Rt 110 #[.agg cs.toArray,.int .i64 nE,.bool top,.pointer (some ⟨b2,0,none⟩),.pointer (some ⟨b4,0,none⟩)] w (.bool (bT nE top p)):=by
 have bH:=au.here _ _ (jK p) h;obtain⟨k,mn,mx,el,ck,ns,nl,sp,A1,n1,c1,A2,n2,c2,pr,A,n,c,rfl,-,vH,l9,lT,uq,eH,hn,aI⟩:=aW bH
 have hlen:n=p.args.length:=by have:=aI.1;rwa [z8] at this
 obtain⟨w1,bI,S1,lY,ai⟩:=af w (.cells #[.int .i64 k,.int .i64 mn,.int .i64 mx,.int .i64 el,.int .i64 ck,.string ns,.string nl,.string sp,.slice A1 n1 c1,.slice A2 n2 c2,.int .i64 pr,.slice A n c] 29);have aQ:=zH S1;have dX:=zH (hr.below ai);obtain⟨iv,CJ⟩:=zF (xh p)
 have yS:Hid (∀W,Bw w1 W->Rt 102 #[.agg (o5 k mn mx el ck ns nl sp A1 n1 c1 A2 n2 c2 pr A n c)] W (.bool iv)):=zH λW hW=>by rw[<-CJ];exact QH p _ W _ (bH.below (ai.seq hW))
 obtain⟨ev,CX⟩:=zF (jZ nE p.args)
 have NP:Hid (∀W,Bw w1 W->Rt 105 #[.agg (o5 k mn mx el ck ns nl sp A1 n1 c1 A2 n2 c2 pr A n c),.int .i64 nE,.pointer (some ⟨b3,0,none⟩)] W (.bool ev)):=zH λW hW=>by rw[<-CX];exact Vp nE p hx _ W _ b1 b2 b3 b4 gm (hr.below (ai.seq hW)) (bH.below (ai.seq hW))
 have HF:Hid (bT nE top p=(iv&&ev)):=zH (by rw[apv hk];rw[CJ,CX]);have q0:=aj S1;obtain⟨-,r2,-,r4,-⟩:=dX.out;have y2:=aO r2;have y4:=aO r4;clear S1 h bH vH l9 lT uq eH aI hlen hk CJ CX hr hx r2 r4;cases iv
 ·go_enter Tryz.func110,Tryz.ntmps110
  go_wp2_with fail;refine (yS.out w1 (Below.refl _ _)).mono ?_;rintro e w2 ⟨rfl,ag⟩;clear q0 y2 y4;have q0:=aj (ae aQ.out ag);have y2:=aO (dX.out.below ag).2.1;have y4:=aO (dX.out.below ag).2.2.2.1;go_wp2_with fail;go_ret;exact⟨aK (by rw[HF.out];rfl),ai.seq ag⟩
 cases ev
 ·go_enter Tryz.func110,Tryz.ntmps110
  go_wp2_with fail;refine (yS.out w1 (Below.refl _ _)).mono ?_;rintro e w2 ⟨rfl,ag⟩;clear q0 y2 y4;have q0:=aj (ae aQ.out ag);have y2:=aO (dX.out.below ag).2.1;have y4:=aO (dX.out.below ag).2.2.2.1;go_wp2_with fail;refine (NP.out w2 ag).mono ?_;rintro e w3 ⟨rfl,az⟩;clear q0 y2 y4;have q0:=aj (ae aQ.out (ag.seq az));have y2:=aO (dX.out.below (ag.seq az)).2.1;have y4:=aO (dX.out.below (ag.seq az)).2.2.2.1;go_wp2_with fail;go_ret;exact⟨aK (by rw[HF.out];rfl),ai.seq (ag.seq az)⟩
 go_enter Tryz.func110,Tryz.ntmps110;go_wp2_with fail;refine (yS.out w1 (Below.refl _ _)).mono ?_;rintro e w2 ⟨rfl,ag⟩;clear q0 y2 y4;have q0:=aj (ae aQ.out ag);have y2:=aO (dX.out.below ag).2.1;have y4:=aO (dX.out.below ag).2.2.2.1;go_wp2_with fail;refine (NP.out w2 ag).mono ?_;rintro e w3 ⟨rfl,az⟩;clear q0 y2 y4;have q0:=aj (ae aQ.out (ag.seq az));have y2:=aO (dX.out.below (ag.seq az)).2.1;have y4:=aO (dX.out.below (ag.seq az)).2.2.2.1;go_wp2_with fail;go_ret;exact⟨aK (by rw[HF.out];rfl),ai.seq (ag.seq az)⟩
theorem ZL(nE:Int)(top:Bool)(p:aJ)(w:World)(hk:p.kind=4)(hx:∀x∈p.args,EE nE x)(b1 b2 b3 b4 gm:Nat)(hr:lL w b1 b2 b3 b4 gm)(cs:List Value)(F:Nat->Prop)(h:au w F (aZ p) cs):
 Rt 111 #[.agg cs.toArray,.int .i64 nE,.bool top,.pointer (some ⟨b2,0,none⟩),.pointer (some ⟨b4,0,none⟩)] w (.bool (bT nE top p)):=by
 have bH:=au.here _ _ (jK p) h;obtain⟨k,mn,mx,el,ck,ns,nl,sp,A1,n1,c1,A2,n2,c2,pr,A,n,c,rfl,-,vH,l9,lT,uq,eH,hn,aI⟩:=aW bH
 have hlen:n=p.args.length:=by have:=aI.1;rwa [z8] at this
 obtain⟨w1,bI,S1,lY,ai⟩:=af w (.cells #[.int .i64 k,.int .i64 mn,.int .i64 mx,.int .i64 el,.int .i64 ck,.string ns,.string nl,.string sp,.slice A1 n1 c1,.slice A2 n2 c2,.int .i64 pr,.slice A n c] 29);have aQ:=zH S1;have dX:=zH (hr.below ai);obtain⟨iv,CJ⟩:=zF (xh p)
 have yS:Hid (∀W,Bw w1 W->Rt 102 #[.agg (o5 k mn mx el ck ns nl sp A1 n1 c1 A2 n2 c2 pr A n c)] W (.bool iv)):=zH λW hW=>by rw[<-CJ];exact QH p _ W _ (bH.below (ai.seq hW))
 obtain⟨e1,BM⟩:=zF (decide (0<n));obtain⟨ev,CX⟩:=zF (jZ nE p.args)
 have NP:Hid (∀W,Bw w1 W->Rt 105 #[.agg (o5 k mn mx el ck ns nl sp A1 n1 c1 A2 n2 c2 pr A n c),.int .i64 nE,.pointer (some ⟨b3,0,none⟩)] W (.bool ev)):=zH λW hW=>by rw[<-CX];exact Vp nE p hx _ W _ b1 b2 b3 b4 gm (hr.below (ai.seq hW)) (bH.below (ai.seq hW))
 have HF:Hid (bT nE top p=(iv&&e1&&ev)):=zH (by rw[apw hk];rw[CJ,CX,<-BM,hlen]);have q0:=aj S1;obtain⟨-,r2,-,r4,-⟩:=dX.out;have y2:=aO r2;have y4:=aO r4;clear S1 h bH vH l9 lT uq eH aI hlen hk CJ CX hr hx r2 r4;cases iv
 ·go_enter Tryz.func111,Tryz.ntmps111
  go_wp2_with fail;refine (yS.out w1 (Below.refl _ _)).mono ?_;rintro e w2 ⟨rfl,ag⟩;clear q0 y2 y4;have q0:=aj (ae aQ.out ag);have y2:=aO (dX.out.below ag).2.1;have y4:=aO (dX.out.below ag).2.2.2.1;go_wp2_with fail;go_ret;exact⟨aK (by rw[HF.out];rfl),ai.seq ag⟩
 cases e1
 ·go_enter Tryz.func111,Tryz.ntmps111
  go_wp2_with fail;refine (yS.out w1 (Below.refl _ _)).mono ?_;rintro e w2 ⟨rfl,ag⟩;clear q0 y2 y4;have q0:=aj (ae aQ.out ag);have y2:=aO (dX.out.below ag).2.1;have y4:=aO (dX.out.below ag).2.2.2.1;go_wp2_with fail;go_ret;exact⟨aK (by rw[HF.out];rfl),ai.seq ag⟩
 cases ev
 ·go_enter Tryz.func111,Tryz.ntmps111
  go_wp2_with fail;refine (yS.out w1 (Below.refl _ _)).mono ?_;rintro e w2 ⟨rfl,ag⟩;clear q0 y2 y4;have q0:=aj (ae aQ.out ag);have y2:=aO (dX.out.below ag).2.1;have y4:=aO (dX.out.below ag).2.2.2.1;go_wp2_with fail;refine (NP.out w2 ag).mono ?_;rintro e w3 ⟨rfl,az⟩;clear q0 y2 y4;have q0:=aj (ae aQ.out (ag.seq az));have y2:=aO (dX.out.below (ag.seq az)).2.1;have y4:=aO (dX.out.below (ag.seq az)).2.2.2.1;go_wp2_with fail;go_ret;exact⟨aK (by rw[HF.out];rfl),ai.seq (ag.seq az)⟩
 go_enter Tryz.func111,Tryz.ntmps111;go_wp2_with fail;refine (yS.out w1 (Below.refl _ _)).mono ?_;rintro e w2 ⟨rfl,ag⟩;clear q0 y2 y4;have q0:=aj (ae aQ.out ag);have y2:=aO (dX.out.below ag).2.1;have y4:=aO (dX.out.below ag).2.2.2.1;go_wp2_with fail;refine (NP.out w2 ag).mono ?_;rintro e w3 ⟨rfl,az⟩;clear q0 y2 y4;have q0:=aj (ae aQ.out (ag.seq az));have y2:=aO (dX.out.below (ag.seq az)).2.1;have y4:=aO (dX.out.below (ag.seq az)).2.2.2.1;go_wp2_with fail;go_ret;exact⟨aK (by rw[HF.out];rfl),ai.seq (ag.seq az)⟩
theorem ZM(nE:Int)(top:Bool)(p:aJ)(w:World)(hk:p.kind=5)(hx:∀x∈p.args,EE nE x)(b1 b2 b3 b4 gm:Nat)(hr:lL w b1 b2 b3 b4 gm)(cs:List Value)(F:Nat->Prop)(h:au w F (aZ p) cs):
 Rt 112 #[.agg cs.toArray,.int .i64 nE,.bool top,.pointer (some ⟨b2,0,none⟩),.pointer (some ⟨b4,0,none⟩)] w (.bool (bT nE top p)):=by
 have bH:=au.here _ _ (jK p) h;obtain⟨k,mn,mx,el,ck,ns,nl,sp,A1,n1,c1,A2,n2,c2,pr,A,n,c,rfl,-,vH,l9,lT,uq,eH,hn,aI⟩:=aW bH
 have hlen:n=p.args.length:=by have:=aI.1;rwa [z8] at this
 obtain⟨w1,bI,S1,lY,ai⟩:=af w (.cells #[.int .i64 k,.int .i64 mn,.int .i64 mx,.int .i64 el,.int .i64 ck,.string ns,.string nl,.string sp,.slice A1 n1 c1,.slice A2 n2 c2,.int .i64 pr,.slice A n c] 29);have aQ:=zH S1;have dX:=zH (hr.below ai);obtain⟨iv,CJ⟩:=zF (xh p)
 have yS:Hid (∀W,Bw w1 W->Rt 102 #[.agg (o5 k mn mx el ck ns nl sp A1 n1 c1 A2 n2 c2 pr A n c)] W (.bool iv)):=zH λW hW=>by rw[<-CJ];exact QH p _ W _ (bH.below (ai.seq hW))
 obtain⟨e1,BM⟩:=zF ((mn==1));obtain⟨e2,DX⟩:=zF ((mx==1));obtain⟨e3,IW⟩:=zF (decide (0<n));obtain⟨e4,Uu⟩:=zF (decide ((n:Int)<=6));obtain⟨ev,CX⟩:=zF (jZ nE p.args)
 have NP:Hid (∀W,Bw w1 W->Rt 105 #[.agg (o5 k mn mx el ck ns nl sp A1 n1 c1 A2 n2 c2 pr A n c),.int .i64 nE,.pointer (some ⟨b3,0,none⟩)] W (.bool ev)):=zH λW hW=>by rw[<-CX];exact Vp nE p hx _ W _ b1 b2 b3 b4 gm (hr.below (ai.seq hW)) (bH.below (ai.seq hW))
 obtain⟨ov,vP⟩:=zF (p.args.any xP)
 have ase:Hid (∀W,Bw w1 W->Rt 106 #[.slice A n c,.func (.func 113) #[] #[]] W (.bool ov)):=zH λW hW=>by rw[<-vP];exact WC p.args A n c W _ (aI.below (ai.seq hW)) hn (λx _ cs W2 G _ hX=>ars x cs W2 G hX)
 have HF:Hid (bT nE top p=(top&&iv&&e1&&e2&&e3&&e4&&ev&&!ov)):=zH (by rw[ahl hk];rw[CJ,CX,vP,vH,l9,<-BM,<-DX,<-IW,<-Uu,oM,oM,asc hlen,hlen]);have q0:=aj S1;obtain⟨-,r2,-,r4,-⟩:=dX.out;have y2:=aO r2;have y4:=aO r4;clear S1 h bH vH l9 lT uq eH aI hlen hk CJ CX vP hr hx r2 r4;cases top
 ·go_enter Tryz.func112,Tryz.ntmps112
  go_wp2_with fail;go_ret;exact⟨aK (by rw[HF.out];rfl),ai⟩
 cases iv
 ·go_enter Tryz.func112,Tryz.ntmps112
  go_wp2_with fail;refine (yS.out w1 (Below.refl _ _)).mono ?_;rintro e w2 ⟨rfl,ag⟩;clear q0 y2 y4;have q0:=aj (ae aQ.out ag);have y2:=aO (dX.out.below ag).2.1;have y4:=aO (dX.out.below ag).2.2.2.1;go_wp2_with fail;go_ret;exact⟨aK (by rw[HF.out];rfl),ai.seq ag⟩
 cases e1
 ·go_enter Tryz.func112,Tryz.ntmps112
  go_wp2_with fail;refine (yS.out w1 (Below.refl _ _)).mono ?_;rintro e w2 ⟨rfl,ag⟩;clear q0 y2 y4;have q0:=aj (ae aQ.out ag);have y2:=aO (dX.out.below ag).2.1;have y4:=aO (dX.out.below ag).2.2.2.1;go_wp2_with fail;go_ret;exact⟨aK (by rw[HF.out];rfl),ai.seq ag⟩
 cases e2
 ·go_enter Tryz.func112,Tryz.ntmps112
  go_wp2_with fail;refine (yS.out w1 (Below.refl _ _)).mono ?_;rintro e w2 ⟨rfl,ag⟩;clear q0 y2 y4;have q0:=aj (ae aQ.out ag);have y2:=aO (dX.out.below ag).2.1;have y4:=aO (dX.out.below ag).2.2.2.1;go_wp2_with fail;go_ret;exact⟨aK (by rw[HF.out];rfl),ai.seq ag⟩
 cases e3
 ·go_enter Tryz.func112,Tryz.ntmps112
  go_wp2_with fail;refine (yS.out w1 (Below.refl _ _)).mono ?_;rintro e w2 ⟨rfl,ag⟩;clear q0 y2 y4;have q0:=aj (ae aQ.out ag);have y2:=aO (dX.out.below ag).2.1;have y4:=aO (dX.out.below ag).2.2.2.1;go_wp2_with fail;go_ret;exact⟨aK (by rw[HF.out];rfl),ai.seq ag⟩
 cases e4
 ·go_enter Tryz.func112,Tryz.ntmps112
  go_wp2_with fail;refine (yS.out w1 (Below.refl _ _)).mono ?_;rintro e w2 ⟨rfl,ag⟩;clear q0 y2 y4;have q0:=aj (ae aQ.out ag);have y2:=aO (dX.out.below ag).2.1;have y4:=aO (dX.out.below ag).2.2.2.1;go_wp2_with fail;go_ret;exact⟨aK (by rw[HF.out];rfl),ai.seq ag⟩
 cases ev
 ·go_enter Tryz.func112,Tryz.ntmps112
  go_wp2_with fail;refine (yS.out w1 (Below.refl _ _)).mono ?_;rintro e w2 ⟨rfl,ag⟩;clear q0 y2 y4;have q0:=aj (ae aQ.out ag);have y2:=aO (dX.out.below ag).2.1;have y4:=aO (dX.out.below ag).2.2.2.1;go_wp2_with fail;refine (NP.out w2 ag).mono ?_;rintro e w3 ⟨rfl,az⟩;clear q0 y2 y4;have q0:=aj (ae aQ.out (ag.seq az));have y2:=aO (dX.out.below (ag.seq az)).2.1;have y4:=aO (dX.out.below (ag.seq az)).2.2.2.1;go_wp2_with fail;go_ret;exact⟨aK (by rw[HF.out];rfl),ai.seq (ag.seq az)⟩
 cases ov
 rotate_left 1
 ·go_enter Tryz.func112,Tryz.ntmps112
  go_wp2_with fail;refine (yS.out w1 (Below.refl _ _)).mono ?_;rintro e w2 ⟨rfl,ag⟩;clear q0 y2 y4;have q0:=aj (ae aQ.out ag);have y2:=aO (dX.out.below ag).2.1;have y4:=aO (dX.out.below ag).2.2.2.1;go_wp2_with fail;refine (NP.out w2 ag).mono ?_;rintro e w3 ⟨rfl,az⟩;clear q0 y2 y4;have q0:=aj (ae aQ.out (ag.seq az));have y2:=aO (dX.out.below (ag.seq az)).2.1;have y4:=aO (dX.out.below (ag.seq az)).2.2.2.1;go_wp2_with fail;refine (ase.out w3 (ag.seq az)).mono ?_;rintro e w4 ⟨rfl,aX⟩;clear q0 y2 y4;have q0:=aj (ae aQ.out ((ag.seq az).seq aX));have y2:=aO (dX.out.below ((ag.seq az).seq aX)).2.1;have y4:=aO (dX.out.below ((ag.seq az).seq aX)).2.2.2.1;go_wp2_with fail;go_ret;exact⟨aK (by rw[HF.out];rfl),ai.seq ((ag.seq az).seq aX)⟩
 go_enter Tryz.func112,Tryz.ntmps112;go_wp2_with fail;refine (yS.out w1 (Below.refl _ _)).mono ?_;rintro e w2 ⟨rfl,ag⟩;clear q0 y2 y4;have q0:=aj (ae aQ.out ag);have y2:=aO (dX.out.below ag).2.1;have y4:=aO (dX.out.below ag).2.2.2.1;go_wp2_with fail;refine (NP.out w2 ag).mono ?_;rintro e w3 ⟨rfl,az⟩;clear q0 y2 y4;have q0:=aj (ae aQ.out (ag.seq az));have y2:=aO (dX.out.below (ag.seq az)).2.1;have y4:=aO (dX.out.below (ag.seq az)).2.2.2.1;go_wp2_with fail;refine (ase.out w3 (ag.seq az)).mono ?_;rintro e w4 ⟨rfl,aX⟩;clear q0 y2 y4;have q0:=aj (ae aQ.out ((ag.seq az).seq aX));have y2:=aO (dX.out.below ((ag.seq az).seq aX)).2.1;have y4:=aO (dX.out.below ((ag.seq az).seq aX)).2.2.2.1;go_wp2_with fail;go_ret;exact⟨aK (by rw[HF.out];rfl),ai.seq ((ag.seq az).seq aX)⟩
theorem af5{p:aJ}:∀{l:List aJ},p∈l->vG p<=rF l
 | q::l,h=>by
   rw[rF]
   rcases List.mem_cons.1 h with rfl | h
   ·omega
   ·have:=af5 h;omega
mutual
theorem acL:∀p:aJ,nY p<=41*vG p
 | .mk _ _ _ _ _ _ args=>by
   rw[vG,nY];have:=aah args 1 zO;omega
theorem aah:∀(l:List aJ) (n:Nat),n<=41+41*rF l->kX n l<=41+41*rF l
 | [],n,h=>by rw[kX];rw[rF] at h ⊢;exact h
 | p::l,n,h=>by
   rw[kX];rw[rF] at h ⊢;have h1:=acL p;have h2:=aah l (n+nY p)
   split
   ·rcases Nat.le_total (n+nY p) (41+41*rF l) with h3 | h3
    ·have:=h2 h3;omega
    ·have h4:kX (n+nY p) l=n+nY p:=by
      cases l with
      | nil=>rw[kX]
      | cons q l=>rw[kX,if_neg zO]
     rw[h4];omega
   ·exact h
end
theorem arz{p:aJ}(h:¬10<sW 10 p):vG p<=1000:=by
 have:=(NC p 10).2.1;omega
theorem ahy:∀(p:aJ) (cs:List Value) (w:World) (F:Nat->Prop),au w F (aZ p) cs->vG p<=1000->
 Rt 54 #[.agg cs.toArray] w (.int .i64 (nY p)):=by
 intro p
 induction p using aJ.ind with
 | h k' nI mx' uo cl' pr' args ih=>
   intro cs w F h xQ;have rZ:=zH ih;clear ih;have bH:=au.here _ _ (jK _) h;obtain⟨k,mn,mx,el,ck,ns,nl,sp,A1,n1,c1,A2,n2,c2,pr,A,n,c,rfl,-,-,-,-,-,-,hn,aI⟩:=aW bH;have kK:bM w (· <w.heap.size) 12 (args.map aZ) A n:=aI;obtain⟨R,hR⟩:=zF (kX 1 args);have hD:nY (.mk k' nI mx' uo cl' pr' args)=R:=(by rw[nY,hR]);rw[hD];have HR:=zH hR;have HN:Hid (n=args.length):=zH (by have:=kK.1;rwa [z8] at this);have YI:Hid (1+rF args<=1000):=zH (by rw[vG] at xQ;exact xQ);obtain⟨w1,bI,S1,lY,ai⟩:=af w (.cells #[.int .i64 k,.int .i64 mn,.int .i64 mx,.int .i64 el,.int .i64 ck,.string ns,.string nl,.string sp,.slice A1 n1 c1,.slice A2 n2 c2,.int .i64 pr,.slice A n c] 29);have aQ:=zH S1;have q0:=aj S1;clear S1 h bH hR hD aI xQ;go_enter Tryz.func54,Tryz.ntmps54;go_wp2_with fail
   go_loopw [3,4] (λs3 s4 wr=>∃i m:Nat,i<=n/\s4= .int .i64 i/\s3= .int .i64 m/\m<=100000040/\Hid (kX m (args.drop i)=R)/\Bw w1 wr)
    (λ_ s4 _=>n - (intOf s4).toNat)
   case atStart=>exact⟨0,1,zO,rfl,rfl,zO,HR,Below.refl _ _⟩
   case round=>
    clear q0;obtain⟨i,m,hi,rfl,rfl,hmb,HL,aH⟩:=hrel;have q0:=aj (ae aQ.out aH);have wG:=ai.seq aH;by_cases aN:i<n
    ·have jV:decide (i<n)=true:=by simp;omega
     by_cases hm:m<=40
     ·obtain⟨b,off,px,v0,v1,v2,v3,v4,v5,v6,v7,v8,v9,v10,v11,HX,eG,z0,z1,z2,z3,z4,z5,z6,z7,z8,z9,nZ,og,dO⟩:=(kK.below wG).DW aN c
      have gJ:decide ((m:Int)<=40)=true:=(by simp;omega);obtain⟨kx,gU,gz,gZ,ig,ik,iq,iw,iy,iC,iD,iE,iF,iG,iH,Ax,nx,cx,fJ,-⟩:=aW eG;simp only[List.cons.injEq,and_true] at fJ;obtain⟨rfl,rfl,rfl,rfl,rfl,rfl,rfl,rfl,rfl,rfl,rfl,rfl⟩:=fJ;have HS:=zH (ae2 HX.out hm HL.out);have Py:vG px<=1000:=(by have h1:=af5 (z13 HX.out);have h2:=YI.out;omega);have hle:nY px<=41*vG px:=acL px;obtain⟨dq,yt⟩:=zF (nY px)
      have HC:Hid (Rt 54 #[.agg (o5 kx gU gz gZ ig ik iq iw iy iC iD iE iF iG iH Ax nx cx)] wr (.int .i64 dq)):=zH (by
       have h:=rZ.out px (z13 HX.out) _ wr _ eG Py
       rw[yt] at h;exact h)
      rw[yt] at HS hle;clear eG yt;go_wp2_with fail;refine HC.out.mono ?_;rintro e w2 ⟨rfl,ag⟩;go_wp2_with fail;go_roundw
      case rel=>exact⟨i+1,m+dq,zO,by go_num,by go_num,zO,HS,aH.seq ag⟩
      case measure=>simp[intOf];omega
     ·have gJ:decide ((m:Int)<=40)=false:=by simp;omega
      have HE:=zH (Um (.inl hm) HL.out);go_wp2_with fail;(try simp only[Exit.inBlock,Exit.then]);refine bodyPost_ret (v:=.int .i64 m) (by simp[results,Tryz.results54,go_sem]) rfl ?_;exact⟨by rw[HE.out],wG⟩
    ·have jV:decide (i<n)=false:=by simp;omega
     have HE:=zH (Um (.inr (by have:=HN.out;omega)) HL.out);go_wp2_with fail;(try simp only[Exit.inBlock,Exit.then]);refine bodyPost_ret (v:=.int .i64 m) (by simp[results,Tryz.results54,go_sem]) rfl ?_;exact⟨by rw[HE.out],wG⟩
end Go.Proofs.YtgmnnegfndpakaaGreatDoor
