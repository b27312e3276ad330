import Derived.Test.YtgmnnegfndpakaaGreatDoorChkC
set_option maxHeartbeats 20000000
set_option maxRecDepth 100000
namespace Go.Proofs.YtgmnnegfndpakaaGreatDoor
open Go.RowKit
def okR(n:Int)(five:Bool)(x:aJ):Bool:=(bU x.mn x.mx&&bT n false x)&&!(five&&(decide (x.mx<1)||decide (3<x.mx)||!pJ n x))
theorem akb{n:Int}{x:aJ}(h:bT n false x=true):pJ n x=fD x.kind:=by
 have h5:x.kind≠5:=by
  intro e;rw[ahl e] at h;simp at h
 by_cases h1:x.kind=1
 ·rw[abm h1] at h
  simp only[z7,z18] at h;rw[YG zO h1];unfold fD;simp[h,h1]
 ·by_cases h2:x.kind=2
  ·rw[abn h2] at h
   simp only[z7,z18] at h;rw[YH zO h2];unfold fD;simp[h,h2]
  ·rw[acI h1 h2]
   unfold fD;simp[h1,h2]
theorem Oa(n:Int):∀l:List aJ,l.all (okR n false)=jZ n l
 | []=>by rw[jZ];rfl
 | x::l=>by rw[List.all_cons,jZ,Oa n l];unfold okR;simp
theorem Rl(n:Int):∀l:List aJ,l.all (okR n true)=(jZ n l&&!l.any xP)
 | []=>by rw[jZ];rfl
 | x::l=>by
   rw[List.all_cons,jZ,Rl n l,List.any_cons];unfold okR xP;cases h:bT n false x
   ·simp
   ·rw[akb h,Bool.eq_iff_iff]
    simp only[z7,Bool.not_eq_true',Bool.or_eq_false_iff,decide_eq_false_iff_not,Bool.true_and,Bool.not_eq_false',Bool.and_true];constructor
    ·rintro⟨⟨h1,⟨h2,h3⟩,h4⟩,h5,h6⟩;exact⟨⟨h1,h5⟩,⟨⟨h4,h2⟩,h3⟩,h6⟩
    ·rintro⟨⟨h1,h5⟩,⟨⟨h4,h2⟩,h3⟩,h6⟩;exact⟨⟨h1,⟨h2,h3⟩,h4⟩,h5,h6⟩
theorem Vy{α:Type}{f:α->Bool}{l:List α}{i:Nat}{x:α}(h:l[i]?=some x):(l.drop i).all f=(f x&&(l.drop (i+1)).all f):=by
 obtain⟨hi,rfl⟩:=List.getElem?_eq_some_iff.1 h;rw[nZ hi,List.all_cons]
theorem Ll{v:Bool}(nE:Int)(p:aJ)(cs:List Value)(w:World)(F:Nat->Prop)(h:au w F (aZ p) cs)(hv:pJ nE p=v):
 Rt 115 #[.agg cs.toArray,.int .i64 nE] w (.bool v):=by subst hv;exact ae9 nE p cs w F h
theorem Xl{n:Int}{top:Bool}{p:aJ}(hk:p.kind=1\/p.kind=2):pJ n p=bT n top p:=by
 rcases hk with hk | hk
 ·by_cases h0:0<p.args.length
  ·rw[N9 h0,abm hk]
   have:decide (p.args.length=0)=false:=(by simp;intro e;rw[e] at h0;simp at h0);rw[this,Bool.and_false]
  ·rw[YG h0 hk,abm hk]
   have:decide (p.args.length=0)=true:=(by simp;exact List.eq_nil_of_length_eq_zero zO);rw[this,Bool.and_true]
 ·by_cases h0:0<p.args.length
  ·rw[N9 h0,abn hk]
   have:decide (p.args.length=0)=false:=(by simp;intro e;rw[e] at h0;simp at h0);rw[this];simp
  ·rw[YH h0 hk,abn hk]
   have:decide (p.args.length=0)=true:=(by simp;exact List.eq_nil_of_length_eq_zero zO);rw[this,Bool.eq_iff_iff];simp only[z7,Bool.and_true];constructor
   ·rintro⟨⟨⟨h1,h2⟩,h3⟩,h4⟩;exact⟨⟨⟨h1,h3⟩,h4⟩,h2⟩
   ·rintro⟨⟨⟨h1,h3⟩,h4⟩,h2⟩;exact⟨⟨⟨h1,h2⟩,h3⟩,h4⟩
theorem acJ(nE:Int):∀(p:aJ) (top:Bool) (cs:List Value) (w:World) (F:Nat->Prop),au w F (aZ p) cs->
 Rt 55 #[.agg cs.toArray,.int .i64 nE,.bool top] w (.bool (bU p.mn p.mx&&bT nE top p)):=by
 intro p
 induction p using aJ.ind with
 | h k' nI mx' uo cl' pr' args ih=>
 intro top cs w F h;have rZ:Hid (∀x∈(aJ.mk k' nI mx' uo cl' pr' args).args,∀(top:Bool) (cs:List Value) (w:World) (F:Nat->Prop),au w F (aZ x) cs->Rt 55 #[.agg cs.toArray,.int .i64 nE,.bool top] w (.bool (bU x.mn x.mx&&bT nE top x))):=zH ih;have bH:=au.here _ _ (jK _) h;obtain⟨p,hp⟩:=zF (aJ.mk k' nI mx' uo cl' pr' args);rw[hp] at rZ bH h ⊢;clear ih hp;obtain⟨k,mn,mx,el,ck,ns,nl,sp,A1,n1,c1,A2,n2,c2,pr,A,n,c,rfl,hk,vH,l9,lT,uq,eH,hn,aI⟩:=aW bH
 have hlen:n=p.args.length:=by have:=aI.1;rwa [z8] at this
 have HN:=zH hlen;have lM:=zH aI;have jG:=zH bH;have vJ:=zH eH;obtain⟨w1,bI,S1,lY,ai⟩:=af w (.cells #[.int .i64 k,.int .i64 mn,.int .i64 mx,.int .i64 el,.int .i64 ck,.string ns,.string nl,.string sp,.slice A1 n1 c1,.slice A2 n2 c2,.int .i64 pr,.slice A n c] 29);have aQ:=zH S1;obtain⟨nb,gX⟩:=zF (bU mn mx);have oG:=zH gX;obtain⟨R,hR⟩:=zF ((bU p.mn p.mx&&bT nE top p));rw[hR];have HR:Hid ((nb&&bT nE top p)=R):=zH (by rw[<-hR,vH,l9,gX]);have HK:=zH hk;have ZZ:=zH vH;have JU:=zH l9;have Xc:=zH lT;have UF:=zH uq;have q0:=aj S1;clear S1 h bH vH l9 aI hR hk lT uq eH gX hlen;go_enter Tryz.func55,Tryz.ntmps55;go_upto_region 1 with fail
 go_cut [37] (λs37 wc=>s37= .bool (!nb)/\w1=wc)
 case first=>
  have lQ:nb=(decide (0<=mn)&&decide (mn<=20)&&(decide (mx= -1)||(decide (max mn 1<=mx)&&decide (mx<=20)))):=oG.out.symm;have HQ:=zH lQ;clear lQ;by_cases hm:mx= -1
  ·have hmb:(mx != -1)=false:=by simp[hm]
   have HM:=zH hm;clear hm;go_wp2_with fail
   all_goals
    go_meet
    case rel=>
     have e:decide (mx= -1)=true:=(by simpa using HM.out);exact⟨(by rw[HQ.out,e];congr 1;simp;try omega),rfl⟩
  ·have hmb:(mx != -1)=true:=by simp[hm]
   have HM:=zH hm;clear hm;go_wp2_with fail
   all_goals
    go_meet
    case rel=>
     have e:decide (mx= -1)=false:=(by simpa using HM.out);exact⟨(by rw[HQ.out,e];congr 1;rw[Bool.eq_iff_iff];simp;try omega),rfl⟩
 case rest=>
  obtain⟨rfl,rfl⟩:=hcut;cases nb
  ·go_wp2_with fail
   go_ret;exact⟨by rw[<-HR.out];rfl,ai⟩
  by_cases eu:k=1
  ·subst eu
   obtain⟨lv,vX⟩:=zF (pJ nE p);have HC:Hid (Rt 115 #[.agg (o5 1 mn mx el ck ns nl sp A1 n1 c1 A2 n2 c2 pr A n c),.int .i64 nE] w1 (.bool lv)):=zH (Ll nE p _ w1 _ (jG.out.below ai) vX);have HX:Hid (R=lv):=zH (by rw[<-HR.out,<-Xl (n:=nE) (top:=top) (.inl HK.out),vX];rfl);clear vX;go_wp2_with fail;refine HC.out.mono ?_;rintro e w2 ⟨rfl,ag⟩;go_wp2_with fail;go_ret;exact⟨by rw[HX.out];rfl,ai.seq ag⟩
  by_cases dm:k=2
  ·subst dm
   obtain⟨lv,vX⟩:=zF (pJ nE p);have HC:Hid (Rt 115 #[.agg (o5 2 mn mx el ck ns nl sp A1 n1 c1 A2 n2 c2 pr A n c),.int .i64 nE] w1 (.bool lv)):=zH (Ll nE p _ w1 _ (jG.out.below ai) vX);have HX:Hid (R=lv):=zH (by rw[<-HR.out,<-Xl (n:=nE) (top:=top) (.inr HK.out),vX];rfl);clear vX;go_wp2_with fail;refine HC.out.mono ?_;rintro e w2 ⟨rfl,ag⟩;go_wp2_with fail;go_ret;exact⟨by rw[HX.out];rfl,ai.seq ag⟩
  by_cases bW:k=3
  ·subst bW
   obtain⟨e1,BM⟩:=zF ((el==0));obtain⟨e2,DX⟩:=zF ((pr==0));have yB:(el !=0)=!e1:=(by rw[<-BM];rfl);have qY:(pr !=0)=!e2:=(by rw[<-DX];rfl);obtain⟨bv,jS⟩:=zF (qm p.cls);have AV:Hid (Rt 116 #[.agg #[.int .i64 ck,.string ns,.string nl,.string sp,.slice A1 n1 c1,.slice A2 n2 c2]] w1 (.bool bv)):=zH (Lj p.cls _ w1 _ (vJ.out.below ai) jS)
   have HF:Hid (R=(e1&&bv&&e2&&p.args.all (okR nE false))):=zH (by
    rw[<-HR.out,apv HK.out,Oa];unfold xh;rw[Xc.out,UF.out,jS,<-BM,<-DX,oM el 0,oM pr 0];rfl)
   clear jS;cases e1
   ·go_wp2_with fail
    go_ret;exact⟨by rw[HF.out];first | rfl | simp,ai⟩
   cases bv
   ·go_wp2_with fail
    refine AV.out.mono ?_;rintro e w2 ⟨rfl,ag⟩;clear q0;have q0:=aj (ae aQ.out ag);go_wp2_with fail;go_ret;exact⟨by rw[HF.out];first | rfl | simp,ai.seq ag⟩
   cases e2
   ·go_wp2_with fail
    refine AV.out.mono ?_;rintro e w2 ⟨rfl,ag⟩;clear q0;have q0:=aj (ae aQ.out ag);go_wp2_with fail;go_ret;exact⟨by rw[HF.out];first | rfl | simp,ai.seq ag⟩
   have Gl:Hid (R=p.args.all (okR nE false)):=zH (by rw[HF.out];rfl);go_wp2_with fail;refine AV.out.mono ?_;rintro e w2 ⟨rfl,ag⟩;clear q0;have q0:=aj (ae aQ.out ag);go_wp2_with fail;clear q0
   go_loopw [7] (λsi wr=>∃i:Nat,i<=n/\si= .int .i64 i/\Hid (p.args.all (okR nE false)=(p.args.drop i).all (okR nE false))/\Bw w1 wr)
    (λsi _=>n - (intOf si).toNat)
   case atStart=>exact⟨0,zO,rfl,zH rfl,ag⟩
   case round=>
    obtain⟨i,hi,rfl,HL,aH⟩:=hrel;have q0:=aj (ae aQ.out aH);by_cases aN:i<n
    ·obtain⟨b,off,px,v0,v1,v2,v3,v4,v5,v6,v7,v8,v9,v10,v11,HX,eG,z0,z1,z2,z3,z4,z5,z6,z7,z8,z9,nZ,og,dO⟩:=(lM.out.below (ai.seq aH)).DW aN c
     have hd:decide (i<n)=true:=(by simp;omega);obtain⟨k3,mn3,J3,el3,ck3,ns3,nl3,sp3,B1,m1,d1,B2,m2,d2,pr3,B,m,d,fJ,bW,acK,Rn,-⟩:=aW eG;simp only[List.cons.injEq,and_true] at fJ;obtain⟨rfl,rfl,rfl,rfl,rfl,rfl,rfl,rfl,rfl,rfl,rfl,rfl⟩:=fJ;obtain⟨v,hv⟩:=zF ((bU px.mn px.mx&&bT nE false px));have HS:=zH (Vy (f:=okR nE false) HX.out);have jr:Hid (okR nE false px=(v&&!(false&&(decide (J3<1)||decide (3<J3)||!pJ nE px)))):=zH (by unfold okR;rw[hv,Rn]);have HC:Hid (Rt 55 #[.agg (o5 k3 mn3 J3 el3 ck3 ns3 nl3 sp3 B1 m1 d1 B2 m2 d2 pr3 B m d),.int .i64 nE,.bool false] wr (.bool v)):=zH (by rw[<-hv];exact rZ.out px (z13 HX.out) false _ wr _ eG);have Ph:=zH eG;clear hv eG bW acK Rn;cases v
     ·go_wp2_with fail
      refine HC.out.mono ?_;rintro e w3 ⟨rfl,az⟩;go_wp2_with fail;go_ret;exact⟨by rw[Gl.out,HL.out,HS.out,jr.out];rfl,ai.seq (aH.seq az)⟩
     ·go_wp2_with fail
      refine HC.out.mono ?_;rintro e w3 ⟨rfl,az⟩;clear q0;have q0:=aj (ae aQ.out (aH.seq az));go_wp2_with fail;go_roundw
      case rel=>exact⟨i+1,zO,by go_num,zH (by rw[HL.out,HS.out,jr.out];rfl),aH.seq az⟩
      case measure=>simp[intOf];omega
    ·have hd:decide (i<n)=false:=by simp;omega
     have HE:Hid (p.args.drop i=[]):=zH (z14 (by have:=HN.out;omega));go_wp2_with fail;go_ret;exact⟨by rw[Gl.out,HL.out,HE.out];rfl,ai.seq aH⟩
  by_cases jl:k=4
  ·subst jl
   obtain⟨e1,BM⟩:=zF ((el==0));obtain⟨e2,DX⟩:=zF ((pr==0));have yB:(el !=0)=!e1:=(by rw[<-BM];rfl);have qY:(pr !=0)=!e2:=(by rw[<-DX];rfl);obtain⟨bv,jS⟩:=zF (qm p.cls);have AV:Hid (Rt 116 #[.agg #[.int .i64 ck,.string ns,.string nl,.string sp,.slice A1 n1 c1,.slice A2 n2 c2]] w1 (.bool bv)):=zH (Lj p.cls _ w1 _ (vJ.out.below ai) jS);obtain⟨e3,IW⟩:=zF (decide (0<n));have FH:((n:Int)==0)=!e3:=(by rw[<-IW,Bool.eq_iff_iff];simp)
   have HF:Hid (R=(e1&&bv&&e2&&e3&&p.args.all (okR nE false))):=zH (by
    rw[<-HR.out,apw HK.out,Oa];unfold xh;rw[Xc.out,UF.out,jS,<-BM,<-DX,<-IW,oM el 0,oM pr 0,HN.out];rfl)
   clear jS;cases e1
   ·go_wp2_with fail
    go_ret;exact⟨by rw[HF.out];first | rfl | simp,ai⟩
   cases bv
   ·go_wp2_with fail
    refine AV.out.mono ?_;rintro e w2 ⟨rfl,ag⟩;clear q0;have q0:=aj (ae aQ.out ag);go_wp2_with fail;go_ret;exact⟨by rw[HF.out];first | rfl | simp,ai.seq ag⟩
   cases e2
   ·go_wp2_with fail
    refine AV.out.mono ?_;rintro e w2 ⟨rfl,ag⟩;clear q0;have q0:=aj (ae aQ.out ag);go_wp2_with fail;go_ret;exact⟨by rw[HF.out];first | rfl | simp,ai.seq ag⟩
   cases e3
   ·go_wp2_with fail
    refine AV.out.mono ?_;rintro e w2 ⟨rfl,ag⟩;clear q0;have q0:=aj (ae aQ.out ag);go_wp2_with fail;go_ret;exact⟨by rw[HF.out];first | rfl | simp,ai.seq ag⟩
   have Gl:Hid (R=p.args.all (okR nE false)):=zH (by rw[HF.out];rfl);go_wp2_with fail;refine AV.out.mono ?_;rintro e w2 ⟨rfl,ag⟩;clear q0;have q0:=aj (ae aQ.out ag);go_wp2_with fail;clear q0
   go_loopw [7] (λsi wr=>∃i:Nat,i<=n/\si= .int .i64 i/\Hid (p.args.all (okR nE false)=(p.args.drop i).all (okR nE false))/\Bw w1 wr)
    (λsi _=>n - (intOf si).toNat)
   case atStart=>exact⟨0,zO,rfl,zH rfl,ag⟩
   case round=>
    obtain⟨i,hi,rfl,HL,aH⟩:=hrel;have q0:=aj (ae aQ.out aH);by_cases aN:i<n
    ·obtain⟨b,off,px,v0,v1,v2,v3,v4,v5,v6,v7,v8,v9,v10,v11,HX,eG,z0,z1,z2,z3,z4,z5,z6,z7,z8,z9,nZ,og,dO⟩:=(lM.out.below (ai.seq aH)).DW aN c
     have hd:decide (i<n)=true:=(by simp;omega);obtain⟨k3,mn3,J3,el3,ck3,ns3,nl3,sp3,B1,m1,d1,B2,m2,d2,pr3,B,m,d,fJ,bW,acK,Rn,-⟩:=aW eG;simp only[List.cons.injEq,and_true] at fJ;obtain⟨rfl,rfl,rfl,rfl,rfl,rfl,rfl,rfl,rfl,rfl,rfl,rfl⟩:=fJ;obtain⟨v,hv⟩:=zF ((bU px.mn px.mx&&bT nE false px));have HS:=zH (Vy (f:=okR nE false) HX.out);have jr:Hid (okR nE false px=(v&&!(false&&(decide (J3<1)||decide (3<J3)||!pJ nE px)))):=zH (by unfold okR;rw[hv,Rn]);have HC:Hid (Rt 55 #[.agg (o5 k3 mn3 J3 el3 ck3 ns3 nl3 sp3 B1 m1 d1 B2 m2 d2 pr3 B m d),.int .i64 nE,.bool false] wr (.bool v)):=zH (by rw[<-hv];exact rZ.out px (z13 HX.out) false _ wr _ eG);have Ph:=zH eG;clear hv eG bW acK Rn;cases v
     ·go_wp2_with fail
      refine HC.out.mono ?_;rintro e w3 ⟨rfl,az⟩;go_wp2_with fail;go_ret;exact⟨by rw[Gl.out,HL.out,HS.out,jr.out];rfl,ai.seq (aH.seq az)⟩
     ·go_wp2_with fail
      refine HC.out.mono ?_;rintro e w3 ⟨rfl,az⟩;clear q0;have q0:=aj (ae aQ.out (aH.seq az));go_wp2_with fail;go_roundw
      case rel=>exact⟨i+1,zO,by go_num,zH (by rw[HL.out,HS.out,jr.out];rfl),aH.seq az⟩
      case measure=>simp[intOf];omega
    ·have hd:decide (i<n)=false:=by simp;omega
     have HE:Hid (p.args.drop i=[]):=zH (z14 (by have:=HN.out;omega));go_wp2_with fail;go_ret;exact⟨by rw[Gl.out,HL.out,HE.out];rfl,ai.seq aH⟩
  by_cases lq:k=5
  ·subst lq
   obtain⟨e1,BM⟩:=zF ((el==0));obtain⟨e2,DX⟩:=zF ((pr==0));have yB:(el !=0)=!e1:=(by rw[<-BM];rfl);have qY:(pr !=0)=!e2:=(by rw[<-DX];rfl);obtain⟨bv,jS⟩:=zF (qm p.cls);have AV:Hid (Rt 116 #[.agg #[.int .i64 ck,.string ns,.string nl,.string sp,.slice A1 n1 c1,.slice A2 n2 c2]] w1 (.bool bv)):=zH (Lj p.cls _ w1 _ (vJ.out.below ai) jS);obtain⟨e3,IW⟩:=zF (decide (0<n));have FH:((n:Int)==0)=!e3:=(by rw[<-IW,Bool.eq_iff_iff];simp);obtain⟨e4,Uu⟩:=zF ((mn==1));obtain⟨e5,he5⟩:=zF ((mx==1));have hn4:(mn !=1)=!e4:=(by rw[<-Uu];rfl);have hn5:(mx !=1)=!e5:=(by rw[<-he5];rfl);obtain⟨e6,he6⟩:=zF (decide (n<=6));have hn6:decide ((6:Int)<(n:Int))=!e6:=(by rw[<-he6,Bool.eq_iff_iff];simp;omega)
   have HF:Hid (R=(e1&&bv&&e2&&e3&&top&&e4&&e5&&e6&&p.args.all (okR nE true))):=zH (by
    rw[<-HR.out,ahl HK.out,Rl];unfold xh;rw[Xc.out,UF.out,ZZ.out,JU.out,jS,<-BM,<-DX,<-IW,<-Uu,<-he5,<-he6,oM el 0,oM pr 0,oM mn 1,oM mx 1,HN.out];rw[Bool.eq_iff_iff];simp only[z7,Bool.true_and,z18];constructor
    ·rintro⟨⟨⟨⟨⟨⟨⟨a1,⟨a2,a3⟩,a4⟩,a5⟩,a6⟩,a7⟩,a8⟩,a9⟩,a10⟩;exact⟨⟨⟨⟨⟨⟨⟨⟨a2,a3⟩,a4⟩,a7⟩,a1⟩,a5⟩,a6⟩,a8⟩,a9,a10⟩
    ·rintro⟨⟨⟨⟨⟨⟨⟨⟨a2,a3⟩,a4⟩,a7⟩,a1⟩,a5⟩,a6⟩,a8⟩,a9,a10⟩;exact⟨⟨⟨⟨⟨⟨⟨a1,⟨a2,a3⟩,a4⟩,a5⟩,a6⟩,a7⟩,a8⟩,a9⟩,a10⟩)
   clear jS;cases e1
   ·go_wp2_with fail
    go_ret;exact⟨by rw[HF.out];first | rfl | simp,ai⟩
   cases bv
   ·go_wp2_with fail
    refine AV.out.mono ?_;rintro e w2 ⟨rfl,ag⟩;clear q0;have q0:=aj (ae aQ.out ag);go_wp2_with fail;go_ret;exact⟨by rw[HF.out];first | rfl | simp,ai.seq ag⟩
   cases e2
   ·go_wp2_with fail
    refine AV.out.mono ?_;rintro e w2 ⟨rfl,ag⟩;clear q0;have q0:=aj (ae aQ.out ag);go_wp2_with fail;go_ret;exact⟨by rw[HF.out];first | rfl | simp,ai.seq ag⟩
   cases e3
   ·go_wp2_with fail
    refine AV.out.mono ?_;rintro e w2 ⟨rfl,ag⟩;clear q0;have q0:=aj (ae aQ.out ag);go_wp2_with fail;go_ret;exact⟨by rw[HF.out];first | rfl | simp,ai.seq ag⟩
   cases top
   ·go_wp2_with fail
    refine AV.out.mono ?_;rintro e w2 ⟨rfl,ag⟩;clear q0;have q0:=aj (ae aQ.out ag);go_wp2_with fail;go_ret;exact⟨by rw[HF.out];first | rfl | simp,ai.seq ag⟩
   cases e4
   ·go_wp2_with fail
    refine AV.out.mono ?_;rintro e w2 ⟨rfl,ag⟩;clear q0;have q0:=aj (ae aQ.out ag);go_wp2_with fail;go_ret;exact⟨by rw[HF.out];first | rfl | simp,ai.seq ag⟩
   cases e5
   ·go_wp2_with fail
    refine AV.out.mono ?_;rintro e w2 ⟨rfl,ag⟩;clear q0;have q0:=aj (ae aQ.out ag);go_wp2_with fail;go_ret;exact⟨by rw[HF.out];first | rfl | simp,ai.seq ag⟩
   cases e6
   ·go_wp2_with fail
    refine AV.out.mono ?_;rintro e w2 ⟨rfl,ag⟩;clear q0;have q0:=aj (ae aQ.out ag);go_wp2_with fail;go_ret;exact⟨by rw[HF.out];first | rfl | simp,ai.seq ag⟩
   have Gl:Hid (R=p.args.all (okR nE true)):=zH (by rw[HF.out];rfl);go_wp2_with fail;refine AV.out.mono ?_;rintro e w2 ⟨rfl,ag⟩;clear q0;have q0:=aj (ae aQ.out ag);go_wp2_with fail;clear q0
   go_loopw [7] (λsi wr=>∃i:Nat,i<=n/\si= .int .i64 i/\Hid (p.args.all (okR nE true)=(p.args.drop i).all (okR nE true))/\Bw w1 wr)
    (λsi _=>n - (intOf si).toNat)
   case atStart=>exact⟨0,zO,rfl,zH rfl,ag⟩
   case round=>
    obtain⟨i,hi,rfl,HL,aH⟩:=hrel;have q0:=aj (ae aQ.out aH);by_cases aN:i<n
    ·obtain⟨b,off,px,v0,v1,v2,v3,v4,v5,v6,v7,v8,v9,v10,v11,HX,eG,z0,z1,z2,z3,z4,z5,z6,z7,z8,z9,nZ,og,dO⟩:=(lM.out.below (ai.seq aH)).DW aN c
     have hd:decide (i<n)=true:=(by simp;omega);obtain⟨k3,mn3,J3,el3,ck3,ns3,nl3,sp3,B1,m1,d1,B2,m2,d2,pr3,B,m,d,fJ,bW,acK,Rn,-⟩:=aW eG;simp only[List.cons.injEq,and_true] at fJ;obtain⟨rfl,rfl,rfl,rfl,rfl,rfl,rfl,rfl,rfl,rfl,rfl,rfl⟩:=fJ;obtain⟨v,hv⟩:=zF ((bU px.mn px.mx&&bT nE false px));have HS:=zH (Vy (f:=okR nE true) HX.out);have jr:Hid (okR nE true px=(v&&!(true&&(decide (J3<1)||decide (3<J3)||!pJ nE px)))):=zH (by unfold okR;rw[hv,Rn]);have HC:Hid (Rt 55 #[.agg (o5 k3 mn3 J3 el3 ck3 ns3 nl3 sp3 B1 m1 d1 B2 m2 d2 pr3 B m d),.int .i64 nE,.bool false] wr (.bool v)):=zH (by rw[<-hv];exact rZ.out px (z13 HX.out) false _ wr _ eG);have Ph:=zH eG;clear hv eG bW acK Rn;cases v
     ·go_wp2_with fail
      refine HC.out.mono ?_;rintro e w3 ⟨rfl,az⟩;go_wp2_with fail;go_ret;exact⟨by rw[Gl.out,HL.out,HS.out,jr.out];rfl,ai.seq (aH.seq az)⟩
     go_wp2_with fail;refine HC.out.mono ?_;rintro e w3 ⟨rfl,az⟩;clear q0;have q0:=aj (ae aQ.out (aH.seq az));have z0':=(az.cell (p:=⟨_,_,none⟩) (World.block_lt_of_cell? _ _ z0)).trans z0;have z1':=(az.cell (p:=⟨_,_,none⟩) (World.block_lt_of_cell? _ _ z1)).trans z1;have z2':=(az.cell (p:=⟨_,_,none⟩) (World.block_lt_of_cell? _ _ z2)).trans z2;have z3':=(az.cell (p:=⟨_,_,none⟩) (World.block_lt_of_cell? _ _ z3)).trans z3;have z4':=(az.cell (p:=⟨_,_,none⟩) (World.block_lt_of_cell? _ _ z4)).trans z4;have z5':=(az.cell (p:=⟨_,_,none⟩) (World.block_lt_of_cell? _ _ z5)).trans z5;have z6':=(az.cell (p:=⟨_,_,none⟩) (World.block_lt_of_cell? _ _ z6)).trans z6;have z7':=(az.cell (p:=⟨_,_,none⟩) (World.block_lt_of_cell? _ _ z7)).trans z7;have z8':=(az.cell (p:=⟨_,_,none⟩) (World.block_lt_of_cell? _ _ z8)).trans z8;have z9':=(az.cell (p:=⟨_,_,none⟩) (World.block_lt_of_cell? _ _ z9)).trans z9;have aIa:=(az.cell (p:=⟨_,_,none⟩) (World.block_lt_of_cell? _ _ nZ)).trans nZ;have aIb:=(az.cell (p:=⟨_,_,none⟩) (World.block_lt_of_cell? _ _ og)).trans og;obtain⟨g1,lV⟩:=zF (decide (J3<1));obtain⟨g2,qo⟩:=zF (decide (3<J3));have ahx:Hid (okR nE true px=!(g1||g2||!pJ nE px)):=zH (by rw[jr.out,lV,qo];rfl);cases g1
     rotate_left 1
     ·go_wp2_with fail
      go_ret;exact⟨by rw[Gl.out,HL.out,HS.out,ahx.out];rfl,ai.seq (aH.seq az)⟩
     cases g2
     rotate_left 1
     ·go_wp2_with fail
      go_ret;exact⟨by rw[Gl.out,HL.out,HS.out,ahx.out];rfl,ai.seq (aH.seq az)⟩
     obtain⟨lv,vX⟩:=zF (pJ nE px);have Ee:=zH vX;have as1:Hid (Rt 115 #[.agg (o5 k3 mn3 J3 el3 ck3 ns3 nl3 sp3 B1 m1 d1 B2 m2 d2 pr3 B m d),.int .i64 nE] w3 (.bool lv)):=zH (Ll nE px _ w3 _ (au.below (au.here _ _ (jK _) Ph.out) az) vX);clear vX;cases lv
     ·go_wp2_with fail
      refine as1.out.mono ?_;rintro e w4 ⟨rfl,aX⟩;go_wp2_with fail;go_ret;exact⟨by rw[Gl.out,HL.out,HS.out,ahx.out,Ee.out];rfl,ai.seq ((aH.seq az).seq aX)⟩
     ·go_wp2_with fail
      refine as1.out.mono ?_;rintro e w4 ⟨rfl,aX⟩;go_wp2_with fail;go_roundw
      case rel=>exact⟨i+1,zO,by go_num,zH (by rw[HL.out,HS.out,ahx.out,Ee.out];rfl),(aH.seq az).seq aX⟩
      case measure=>simp[intOf];omega
    ·have hd:decide (i<n)=false:=by simp;omega
     have HE:Hid (p.args.drop i=[]):=zH (z14 (by have:=HN.out;omega));go_wp2_with fail;go_ret;exact⟨by rw[Gl.out,HL.out,HE.out];rfl,ai.seq aH⟩
  have HX:Hid (R=false):=zH (by rw[<-HR.out,QR (HK.out ▸ eu) (HK.out ▸ dm) (HK.out ▸ bW) (HK.out ▸ jl) (HK.out ▸ lq)];rfl)
  have hj1:(k==1)=false:=by simpa using eu
  have hj2:(k==2)=false:=by simpa using dm
  have hj3:(k==3)=false:=by simpa using bW
  have hj4:(k==4)=false:=by simpa using jl
  have hj5:(k==5)=false:=by simpa using lq
  clear eu dm bW jl lq;go_wp2_with fail;go_ret;exact⟨by rw[HX.out];rfl,ai⟩
theorem amO{v:Bool}(l:List Nm)(A:Option Addr)(n c:Nat)(w:World)(F:Nat->Prop)(bQ:aY w F 2 dK l A n)(hn:n<6000000000000)(hv:(!l.any oZ)=v):
 Rt 20 #[.slice A n c] w (.bool v):=by subst hv;exact amv l A n c w F bQ hn
theorem afa{v:Nat}(p:aJ)(cs:List Value)(w:World)(F:Nat->Prop)(h:au w F (aZ p) cs)(hv:sW 10 p=v):
 Rt 53 #[.agg cs.toArray,.int .i64 10] w (.int .i64 v):=by subst hv;exact ae3 10 p cs w F h zO
theorem afb{v:Nat}(p:aJ)(cs:List Value)(w:World)(F:Nat->Prop)(h:au w F (aZ p) cs)(hn:vG p<=1000)(hv:nY p=v):
 Rt 54 #[.agg cs.toArray] w (.int .i64 v):=by subst hv;exact ahy p cs w F h hn
theorem acM{v:Bool}(nE:Int)(p:aJ)(top:Bool)(cs:List Value)(w:World)(F:Nat->Prop)(h:au w F (aZ p) cs)(hv:(bU p.mn p.mx&&bT nE top p)=v):
 Rt 55 #[.agg cs.toArray,.int .i64 nE,.bool top] w (.bool v):=by subst hv;exact acJ nE p top cs w F h
theorem aa9{v:Int}(p:aJ)(cs:List Value)(w:World)(F:Nat->Prop)(h:au w F (aZ p) cs)(hv:dC p=v):
 Rt 16 #[.agg cs.toArray] w (.int .i64 v):=by subst hv;exact aa4 p cs w F h
theorem amP{α:Type}{f:α->Bool}{l:List α}{i:Nat}{x:α}(h:l[i]?=some x):(l.drop i).any f=(f x||(l.drop (i+1)).any f):=by
 obtain⟨hi,rfl⟩:=List.getElem?_eq_some_iff.1 h;rw[nZ hi,List.any_cons]
theorem acN(elems:List (List Nm))(p:aJ)(cs:List Value)(A9:Option Addr)(n9 c9:Nat)(w:World)(F F9:Nat->Prop)(h:au w F (aZ p) cs)(hE:bM w F9 1 (elems.map nU) A9 n9)(GV:n9<6000000000000):
 Rt 14 #[.agg cs.toArray,.slice A9 n9 c9] w (.int .i64 (kN elems p)):=by
 have bH:=au.here _ _ (jK _) h;have lT:=bM.here hE (Nz _);have Xc:=zH lT;obtain⟨k,mn,mx,el,ck,ns,nl,sp,A1,n1,c1,A2,n2,c2,pr,A,n,c,rfl,hk,-⟩:=aW bH;obtain⟨w1,bI,S1,lY,ai⟩:=af w (.cells #[.int .i64 k,.int .i64 mn,.int .i64 mx,.int .i64 el,.int .i64 ck,.string ns,.string nl,.string sp,.slice A1 n1 c1,.slice A2 n2 c2,.int .i64 pr,.slice A n c] 29);have aQ:=zH S1;have jG:=zH bH;have HK:=zH hk;have pR:Hid (n9=elems.length):=zH (by have:=lT.1;rwa [z8] at this);obtain⟨R,hR⟩:=zF (kN elems p);rw[hR];have HR:=zH hR;have q0:=aj S1;clear S1 h bH hk hE lT hR;by_cases xQ:60<n9
 ·have hd:decide ((60:Int)<(n9:Int))=true:=by simp;omega
  have HX:Hid (R=2):=zH (by rw[<-HR.out];exact I8 (.inl (by rw[<-pR.out];exact xQ)));clear xQ;go_enter Tryz.func14,Tryz.ntmps14;go_wp2_with fail;go_ret;exact⟨by rw[HX.out];rfl,ai⟩
 have hd:decide ((60:Int)<(n9:Int))=false:=by simp;omega
 have YI:=zH xQ;clear xQ;go_enter Tryz.func14,Tryz.ntmps14;go_wp2_with fail;clear q0
 go_loopw [5] (λsi wr=>∃i:Nat,i<=n9/\si= .int .i64 i/\Hid (elems.any badL=(elems.drop i).any badL)/\Bw w1 wr)
  (λsi _=>n9 - (intOf si).toNat)
 case atStart=>exact⟨0,zO,rfl,zH rfl,Below.refl _ _⟩
 case round=>
  obtain⟨i,hi,rfl,HL,aH⟩:=hrel;have q0:=aj (ae aQ.out aH);by_cases aN:i<n9
  ·obtain⟨b,off,x,B,m,d,HX,hm,eG,z0,dO⟩:=(Xc.out.below (ai.seq aH)).Uk aN c9
   have jc:decide (i<n9)=true:=(by simp;omega);have Pv:=zH eG.1;have HS:=zH (amP (f:=badL) HX.out);by_cases ahz:100<m
   ·have sZ:decide ((100:Int)<(m:Int))=true:=by simp;omega
    have HB:Hid (badL x=true):=zH (by unfold badL;rw[<-Pv.out,show decide (100<m)=true by simpa using ahz];rfl);clear ahz eG;go_wp2_with fail;go_ret;have HX:Hid (R=2):=zH (by rw[<-HR.out];exact I8 (.inr (by rw[HL.out,HS.out,HB.out];rfl)));exact⟨by rw[HX.out];rfl,ai.seq aH⟩
   ·have sZ:decide ((100:Int)<(m:Int))=false:=by simp;omega
    obtain⟨v,hv⟩:=zF ((!x.any oZ));have HB:Hid (badL x=!v):=zH (by unfold badL;rw[<-Pv.out,show decide (100<m)=false by simpa using ahz,<-hv];simp);have HC:Hid (Rt 20 #[.slice B m d] wr (.bool v)):=zH (amO x B m d wr _ eG hm hv);clear ahz eG hv;cases v
    ·go_wp2_with fail
     refine HC.out.mono ?_;rintro e w3 ⟨rfl,az⟩;go_wp2_with fail;go_ret;have HX:Hid (R=2):=zH (by rw[<-HR.out];exact I8 (.inr (by rw[HL.out,HS.out,HB.out];rfl)));exact⟨by rw[HX.out];rfl,ai.seq (aH.seq az)⟩
    ·go_wp2_with fail
     refine HC.out.mono ?_;rintro e w3 ⟨rfl,az⟩;go_wp2_with fail;go_roundw
     case rel=>exact⟨i+1,zO,by go_num,zH (by rw[HL.out,HS.out,HB.out];rfl),aH.seq az⟩
     case measure=>simp[intOf];omega
  ·have jc:decide (i<n9)=false:=by simp;omega
   have HAV:Hid (elems.any badL=false):=zH (by rw[HL.out,z14 (by have:=pR.out;omega)];rfl);have qG:Hid (R=if IG p=true then 3 else if (bU p.mn p.mx&&bT elems.length true p)=false then 2 else if p.kind≠5/\200<dC p then 3 else 0):=zH (by rw[<-HR.out];exact acp (by rw[<-pR.out];exact YI.out) HAV.out);obtain⟨d,J4⟩:=zF (sW 10 p);obtain⟨m,L8⟩:=zF (nY p);have hbN:=arp p;rw[J4,L8] at hbN;have HBN:=zH hbN;have amQ:Hid (Rt 53 #[.agg (o5 k mn mx el ck ns nl sp A1 n1 c1 A2 n2 c2 pr A n c),.int .i64 10] wr (.int .i64 d)):=zH (afa p _ wr _ (jG.out.below (ai.seq aH)) J4);have ahA:Hid (¬10<d->∀W,Bw wr W->Rt 54 #[.agg (o5 k mn mx el ck ns nl sp A1 n1 c1 A2 n2 c2 pr A n c)] W (.int .i64 m)):=zH λhd W hW=>afb p _ W _ (jG.out.below (ai.seq (aH.seq hW))) (arz (by rw[J4];exact hd)) L8;clear hbN J4 L8;by_cases AP:10<d
   ·have gJ:decide ((10:Int)<(d:Int))=true:=by simp;omega
    have HX:Hid (R=3):=zH (by rw[qG.out,if_pos];rw[<-HBN.out];simp[AP]);clear AP;go_wp2_with fail;refine amQ.out.mono ?_;rintro e w3 ⟨rfl,az⟩;go_wp2_with fail;go_ret;exact⟨by rw[HX.out];rfl,ai.seq (aH.seq az)⟩
   have gJ:decide ((10:Int)<(d:Int))=false:=(by simp;omega);replace ahA:=zH (ahA.out AP);by_cases Xd:40<m
   ·have sZ:decide ((40:Int)<(m:Int))=true:=by simp;omega
    have HX:Hid (R=3):=zH (by rw[qG.out,if_pos];rw[<-HBN.out];simp[Xd]);clear AP Xd;go_wp2_with fail;refine amQ.out.mono ?_;rintro e w3 ⟨rfl,az⟩;clear q0;have q0:=aj (ae aQ.out (aH.seq az));go_wp2_with fail;refine (ahA.out w3 az).mono ?_;rintro e w4 ⟨rfl,aX⟩;go_wp2_with fail;go_ret;exact⟨by rw[HX.out];rfl,ai.seq (aH.seq (az.seq aX))⟩
   have sZ:decide ((40:Int)<(m:Int))=false:=(by simp;omega);have ZX:Hid (R=if (bU p.mn p.mx&&bT elems.length true p)=false then 2 else if p.kind≠5/\200<dC p then 3 else 0):=zH (by rw[qG.out,if_neg];rw[<-HBN.out];simp[AP,Xd]);clear AP Xd;obtain⟨fv,lh⟩:=zF ((bU p.mn p.mx&&bT (n9:Int) true p));have AL:Hid (∀W,Bw wr W->Rt 55 #[.agg (o5 k mn mx el ck ns nl sp A1 n1 c1 A2 n2 c2 pr A n c),.int .i64 (n9:Int),.bool true] W (.bool fv)):=zH λW hW=>acM (n9:Int) p true _ W _ (jG.out.below (ai.seq (aH.seq hW))) lh;have qK:Hid (R=if fv=false then 2 else if p.kind≠5/\200<dC p then 3 else 0):=zH (by rw[ZX.out,<-pR.out,lh]);clear lh;go_wp2_with fail;refine amQ.out.mono ?_;rintro e w3 ⟨rfl,az⟩;clear q0;have q0:=aj (ae aQ.out (aH.seq az));go_wp2_with fail;refine (ahA.out w3 az).mono ?_;rintro e w4 ⟨rfl,aX⟩;have o6:=az.seq aX;clear q0;have q0:=aj (ae aQ.out (aH.seq o6));go_wp2_with fail;refine (AL.out w4 o6).mono ?_;rintro e w5 ⟨rfl,bg⟩;have Ob:=o6.seq bg;clear q0;have q0:=aj (ae aQ.out (aH.seq Ob));cases fv
   ·have HX:Hid (R=2):=zH (by rw[qK.out];rfl)
    go_wp2_with fail;go_ret;exact⟨by rw[HX.out];rfl,ai.seq (aH.seq Ob)⟩
   by_cases lq:k=5
   ·have hj:(k !=5)=false:=by simp[lq]
    have HX:Hid (R=0):=zH (by rw[qK.out,if_neg zP,if_neg (by rintro⟨h,_⟩;exact h (HK.out.trans lq))]);clear lq;go_wp2_with fail;go_ret;exact⟨by rw[HX.out];rfl,ai.seq (aH.seq Ob)⟩
   ·have hj:(k !=5)=true:=by simp[lq]
    obtain⟨pv,oC⟩:=zF (dC p);have JS:Hid (Rt 16 #[.agg (o5 k mn mx el ck ns nl sp A1 n1 c1 A2 n2 c2 pr A n c)] w5 (.int .i64 pv)):=zH (aa9 p _ w5 _ (jG.out.below (ai.seq (aH.seq Ob))) oC);by_cases lN:200<pv
    ·have Ef:decide (200<pv)=true:=by simpa using lN
     have HX:Hid (R=3):=zH (by rw[qK.out,if_neg zP,if_pos ⟨by rw[HK.out];exact lq,by rw[oC];exact lN⟩]);clear lN oC lq;go_wp2_with fail;refine JS.out.mono ?_;rintro e w8 ⟨rfl,eX⟩;go_wp2_with fail;go_ret;exact⟨by rw[HX.out];rfl,ai.seq (aH.seq (Ob.seq eX))⟩
    ·have Ef:decide (200<pv)=false:=by simpa using lN
     have HX:Hid (R=0):=zH (by rw[qK.out,if_neg zP,if_neg (by rintro⟨_,h⟩;rw[oC] at h;exact lN h)]);clear lN oC lq;go_wp2_with fail;refine JS.out.mono ?_;rintro e w8 ⟨rfl,eX⟩;go_wp2_with fail;go_ret;exact⟨by rw[HX.out];rfl,ai.seq (aH.seq (Ob.seq eX))⟩
end Go.Proofs.YtgmnnegfndpakaaGreatDoor
