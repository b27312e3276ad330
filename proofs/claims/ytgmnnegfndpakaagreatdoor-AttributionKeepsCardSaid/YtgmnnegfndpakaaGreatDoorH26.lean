import Derived.Test.YtgmnnegfndpakaaGreatDoorH24
set_option maxHeartbeats 20000000
set_option maxRecDepth 100000
namespace Go.Proofs.YtgmnnegfndpakaaGreatDoor
open Go.RowKit Go.Proofs.Tryz
def ap4(el mn mx:Int):aJ:=.mk 1 mn mx el (.mk 0 ⟨#[]⟩ ⟨#[]⟩ ⟨#[]⟩ [] []) 0 []
theorem FX(el mn mx:Int)(w:World)(F:Nat->Prop):au w F (aZ (ap4 el mn mx)) [.int .i64 1,.int .i64 mn,.int .i64 mx,.int .i64 el,.int .i64 0,.string ⟨#[]⟩,.string ⟨#[]⟩,.string ⟨#[]⟩,.slice none 0 0,.slice none 0 0,.int .i64 0,.slice none 0 0]:=by
 unfold ap4;rw[Et];simp only[wC,Ny,List.map_nil,List.cons_append,List.nil_append]
 have hs:∀sz:Nat,gI w F (.sl sz []) (.slice none 0 0):=λsz=>by
  rw[gI.LX];exact⟨none,0,rfl,zP,λh=>by simp at h⟩
 iterate 12
  rw[au.gu];refine⟨_,_,rfl,(by first | exact hs _ | rw[gI.rq]),?_⟩
 rw[au.oL]
theorem ax.Uk{w:World}{base:Nat}{l:List Nm}{v:Value}(h:ax w base 23 2 dK l v)(hl:l.length<1000000){F:Nat->Prop}(hF:∀k,v.ownBlock=some k->F k):au w F (nU l) [v]:=by
 obtain⟨A,c,e,hr,-,-⟩:=h.rowAt wX zD F (λk hk=>hF k hk);subst e;unfold nU;rw[au.gu];refine⟨_,[],rfl,?_,by rw[au.oL]⟩;rw[gI.LX];refine⟨A,c,by rw[z8],by rw[z8];omega,λhp=>?_⟩;rw[z8] at hp;obtain⟨b,off,hA,hb,hc⟩:=hr.2 hp;refine⟨b,off,hA,hb,bK.Wv λi e he=>?_⟩;rw[z17] at he;obtain⟨x,hx,rfl⟩:=Option.map_eq_some_iff.1 he;exact⟨dK x,hc i x hx,by unfold nmD dK;rw[au.gu];refine⟨_,_,rfl,by rw[gI.rq],?_⟩;rw[au.gu];exact⟨_,[],rfl,by rw[gI.rq],by rw[au.oL]⟩⟩
theorem bM.keepW{w w':World}{sz:Nat}{es:List (List D)}{A:Option Addr}{n:Nat}(h:bM w (· <w.heap.size) sz es A n)(hb:Bw w w'):bM w' (· <w'.heap.size) sz es A n:=h.keep λb h=>⟨by have:=hb.size;show b<w'.heap.size;omega,hb.block b h⟩
theorem au.keepW{w w':World}{ds:List D}{cs:List Value}(h:au w (· <w.heap.size) ds cs)(hb:Bw w w'):au w' (· <w'.heap.size) ds cs:=h.keep λb h=>⟨by have:=hb.size;show b<w'.heap.size;omega,hb.block b h⟩
theorem aA1{p:Prop} (h:p:=by
 clear aH dU hi;obtain⟨i,m,hi,rfl,rfl,dU⟩:=hrel;clear q0 q1 q2 q3 q4 q5;obtain⟨q0,q1,q2,q3,q4,q5⟩:=gG (ae aQ.out dU);have aH:=ai.seq dU;by_cases aN:i<n'
 ·have gJ:=zT1 (i<n');by_cases hm:m<1000
  ·have jc:=zT1 (m<1000);obtain⟨b1,xU,x,v0,v1,v2,v3,v4,v5,HX,eG,p0,p1,p2,p3,p4,p5,dO⟩:=h2.round aH aN c';go_wp2_with fail;refine (HI.out x _ _ _ eG).mono ?_;rintro e w2 ⟨⟨k2,rfl⟩,ag⟩;have az:=dU.trans (ag.mono dU.size);go_wp2_with fail;go_roundw
   case rel=>
    first
     | exact⟨i+1,_,zO,by go_num,rfl,az⟩
     | (refine⟨_,_,_,_,_,_,_,_,_,_,_,_,_,_,_,_,_,_,_,_,_,_,_,?_,rfl⟩;exact⟨i+1,_,zO,by go_num,rfl,az⟩)
   simp[intOf];omega
  have jc:=zT2 (m<1000);go_wp2_with fail;go_ret;exact⟨⟨_,rfl⟩,aH⟩
 have gJ:=zT2 (i<n');go_wp2_with fail;go_ret
 exact⟨⟨_,rfl⟩,aH⟩):p:=h
theorem aeV:∀(d:Nat),d<1000->∀(x:aT) (cs:List Value) (w:World) (F:Nat->Prop),dA w F x cs->
 Cl 72 #[.agg cs.toArray,.int .i64 (d:Nat)] w λe w'=>(∃k:Int,e= .returned (.int .i64 k))/\Bw w w':=by
 intro d
 induction d with
 | zero=>
   rintro hd ⟨k,ns,nl,s,ex,ar⟩ cs w F hr;obtain⟨A,n,c,A',n',c',rfl,hl,zS,h1,h2⟩:=hr.form;obtain⟨w1,bI,S1,nC,ai⟩:=af w (.cells #[.int .i64 k,.string ns,.string nl,.string s,.slice A n c,.slice A' n' c'] 26);go_enter func72,ntmps72;go_wp2_with fail;go_ret;exact⟨⟨_,rfl⟩,ai⟩
 | succ d ih=>
   rintro hd ⟨k,ns,nl,s,ex,ar⟩ cs w F hr;obtain⟨A,n,c,A',n',c',rfl,hl,zS,h1,h2⟩:=hr.here.form;have HI:=zH (ih zO);clear ih hr;obtain⟨w1,bI,S1,nC,ai⟩:=af w (.cells #[.int .i64 k,.string ns,.string nl,.string s,.slice A n c,.slice A' n' c'] 26);obtain⟨q0,q1,q2,q3,q4,q5⟩:=gG S1;have aQ:=zH S1;clear S1;have hdp:decide ((d:Int)+1=0)=false:=decide_eq_false zO;have aD7:(((d:Int)+1)==0)=false:=zS1;go_enter func72,ntmps72;go_wp2_with fail;have HW:=zH bI;clear bI
   go_loopw [6,5] (λsi s5 wr=>∃(i:Nat) (m:Int),i<=n/\si= .int .i64 i/\s5= .int .i64 m/\Bw w1 wr)
    (λsi _ _=>n - (intOf si).toNat)
   case atStart=>exact⟨0,_,zO,rfl,rfl,Below.refl _ _⟩
   obtain⟨i,m,hi,rfl,rfl,dU⟩:=hrel;clear q0 q1 q2 q3 q4 q5;obtain⟨q0,q1,q2,q3,q4,q5⟩:=gG (ae aQ.out dU);have aH:=ai.seq dU;by_cases aN:i<n
   ·have gJ:=zT1 (i<n);by_cases hm:m<1000
    ·have jc:=zT1 (m<1000);obtain⟨b1,xU,x,v0,v1,v2,v3,v4,v5,HX,eG,p0,p1,p2,p3,p4,p5,dO⟩:=h1.round aH aN c;go_wp2_with fail;refine (HI.out x _ _ _ eG).mono ?_;rintro e w2 ⟨⟨k2,rfl⟩,ag⟩;have az:=dU.trans (ag.mono dU.size);go_wp2_with fail;go_roundw
     case rel=>
      first
       | exact⟨i+1,_,zO,by go_num,rfl,az⟩
       | (refine⟨_,_,_,_,_,_,_,_,_,_,_,_,_,_,_,_,_,_,_,_,_,_,_,?_,rfl⟩;exact⟨i+1,_,zO,by go_num,rfl,az⟩)
     simp[intOf];omega
    have jc:=zT2 (m<1000);go_wp2_with fail
    go_loopw [7,5] (λsi s5 wr=>∃(i:Nat) (m:Int),i<=n'/\si= .int .i64 i/\s5= .int .i64 m/\Bw w1 wr)
     (λsi _ _=>n' - (intOf si).toNat)
    case atStart=>exact⟨0,_,zO,rfl,rfl,dU⟩
    exact aA1
   have gJ:=zT2 (i<n);go_wp2_with fail
   go_loopw [7,5] (λsi s5 wr=>∃(i:Nat) (m:Int),i<=n'/\si= .int .i64 i/\s5= .int .i64 m/\Bw w1 wr)
    (λsi _ _=>n' - (intOf si).toNat)
   case atStart=>exact⟨0,_,zO,rfl,rfl,dU⟩
   exact aA1
theorem aja:∀(d:Nat),d<1000->∀(x:aJ) (cs:List Value) (w:World) (F:Nat->Prop),au w F (aZ x) cs->
 Cl 22 #[.agg cs.toArray,.int .i64 (d:Nat)] w λe w'=>(∃k:Int,e= .returned (.int .i64 k))/\Bw w w':=by
 intro d
 induction d with
 | zero=>
   intro hd x cs w F hr;obtain⟨k,mn,mx,el,ck,ns,nl,sp,A1,n1,c1,A2,n2,c2,pr,A,n,c,rfl,-⟩:=aW hr;obtain⟨w1,bI,S1,nC,ai⟩:=zP1 w k mn mx el ck ns nl sp A1 n1 c1 A2 n2 c2 pr A n c;go_enter func22,ntmps22;go_wp2_with fail;go_ret;exact⟨⟨_,rfl⟩,ai⟩
 | succ d ih=>
   intro hd x cs w F hr;have bH:=au.here _ _ (jK _) hr;obtain⟨k,mn,mx,el,ck,ns,nl,sp,A1,n1,c1,A2,n2,c2,pr,A,n,c,rfl,-,-,-,-,-,eH,hn,aI⟩:=aW bH;have HI:=zH (ih zO);clear ih hr bH;obtain⟨w1,bI,S1,nC,ai⟩:=zP1 w k mn mx el ck ns nl sp A1 n1 c1 A2 n2 c2 pr A n c;have q0:=aj S1;have aQ:=zH S1;clear S1;have lM:=zH aI;have HC:=zH (aeV 20 zD _ _ w1 _ (eH.below ai));have hdp:decide ((d:Int)+1=0)=false:=decide_eq_false zO;have aD7:(((d:Int)+1)==0)=false:=zS1;clear eH aI;go_enter func22,ntmps22
   go_wp2_with (go_at_call 72;refine HC.out.mono ?_;rintro e w2 ⟨⟨k2,rfl⟩,ag⟩;have DU:=zH (ai.seq ag);have Lh:=zH ag;clear ag)
   go_loopw [6,5] (λsi s5 wr=>∃(i:Nat) (m:Int),i<=n/\si= .int .i64 i/\s5= .int .i64 m/\Bw w2 wr)
    (λsi _ _=>n - (intOf si).toNat)
   case atStart=>exact⟨0,_,zO,rfl,rfl,Below.refl _ _⟩
   obtain⟨i,m,hi,rfl,rfl,dU⟩:=hrel;clear q0;have q0:=aj (ae aQ.out (Lh.out.seq dU));have aH:=DU.out.seq dU;by_cases aN:i<n
   ·have gJ:=zT1 (i<n);by_cases hm:m<1000
    ·have jc:=zT1 (m<1000);obtain⟨b,off,px,v0,v1,v2,v3,v4,v5,v6,v7,v8,v9,v10,v11,HX,eG,z0,z1,z2,z3,z4,z5,z6,z7,z8,z9,nZ,og,dO⟩:=(lM.out.below aH).DW aN c;have RY:=zH (HI.out px _ wr _ eG);clear eG
     go_wp2_with (go_at_call 22;refine RY.out.mono ?_;rintro e w5 ⟨⟨k5,rfl⟩,bg⟩)
     go_roundw
     case rel=>
      first
       | exact⟨i+1,_,zO,by go_num,rfl,dU.seq bg⟩
       | (refine⟨_,_,_,_,_,_,_,_,_,_,_,_,_,_,_,_,_,_,_,_,?_,rfl⟩;exact⟨i+1,_,zO,by go_num,rfl,dU.seq bg⟩)
     simp[intOf];omega
    have jc:=zT2 (m<1000);go_wp2_with fail;go_ret;exact⟨⟨_,rfl⟩,aH⟩
   have gJ:=zT2 (i<n);go_wp2_with fail;go_ret;exact⟨⟨_,rfl⟩,aH⟩
def ayD(e:Ending):Prop:=∃b:Bool,e= .returned (.bool b)
theorem ajb(x:aJ)(elems:List (List Nm))(cs:List Value)(w:World)(F:Nat->Prop)(eA:Option Addr)(en ec:Nat)(hr:au w F (aZ x) cs)(he:bM w (· <w.heap.size) 1 (elems.map nU) eA en)(jR:en<6000000000000):
 Cl 11 #[.agg cs.toArray,.slice eA en ec] w λe w'=>ayD e/\Bw w w':=by
 have bH:=au.here _ _ (jK _) hr;obtain⟨k,mn,mx,el,ck,ns,nl,sp,A1,n1,c1,A2,n2,c2,pr,A,n,c,rfl,-⟩:=aW bH;obtain⟨w1,bI,S1,nC,ai⟩:=zP1 w k mn mx el ck ns nl sp A1 n1 c1 A2 n2 c2 pr A n c;obtain⟨jG,aQ,HE⟩:=zJ3 bH S1 he;clear hr bH S1 he;go_enter func11,ntmps11;go_wp2_with fail;have nK:=zH ai
 go_loopw [6,5] (λsi s5 wr=>∃(i:Nat) (m:Int),i<=en/\si= .int .i64 i/\s5= .int .i64 m/\Bw w1 wr)
  (λsi _ _=>en - (intOf si).toNat)
 case atStart=>exact⟨0,_,zO,rfl,rfl,Below.refl _ _⟩
 obtain⟨i,m,hi,rfl,rfl,dU⟩:=hrel;have aH:=ai.seq dU;by_cases aN:i<en
 ·have gJ:=zT1 (i<en);obtain⟨ob,off,xl,Ax,nx,cx,HX,hxn,aI,GI,dO⟩:=(HE.out.below aH).Uk aN ec;have HBR:=zH dU;obtain⟨wo,X3⟩:=zE wr;subst X3;go_wp2_with fail
  go_loopw [7,5] (λsk s5 wr=>∃(k:Nat) (m:Int),k<=nx/\sk= .int .i64 k/\s5= .int .i64 m/\Bw wo wr)
   (λsk _ _=>nx - (intOf sk).toNat)
  case atStart=>exact⟨0,_,zO,rfl,rfl,Below.refl _ _⟩
  obtain⟨k,m,hk,rfl,rfl,jB⟩:=hrel;have GI:=(World.cell?_of_block (jB.block ob (World.block_lt_of_cell? wo _ GI))).trans GI;by_cases Dt:k<nx
  ·have jc:=zT1 (k<nx);by_cases h60:k<60
   ·have sZ:=zT1 ((k:Int)<60);obtain⟨b2,ahT,y1,y2,HY,p0,p1,hiy⟩:=(aI.below (jB.mono aH.size)).name Dt cx;go_wp2_with fail
    go_quiet (fail)
    go_wp2_with fail;go_roundw
    case rel=>
     first
      | exact⟨k+1,_,zO,by go_num,rfl,jB.drewN _⟩
      | (refine⟨_,_,_,_,_,_,_,_,_,_,_,_,_,_,_,_,_,_,_,_,?_,rfl⟩;exact⟨k+1,_,zO,by go_num,rfl,jB.drewN _⟩)
    simp[intOf];omega
   have sZ:=zT2 ((k:Int)<60);go_wp2_with fail;go_roundw
   case rel=>exact⟨i+1,_,zO,by go_num,rfl,HBR.out.seq jB⟩
   simp[intOf];omega
  have jc:=zT2 (k<nx);go_wp2_with fail;go_roundw
  case rel=>exact⟨i+1,_,zO,by go_num,rfl,HBR.out.seq jB⟩
  simp[intOf];omega
 have gJ:=zT2 (i<en);have HP:=zH (aja 14 zD x _ wr _ (jG.out.below aH));have q0:=aj (ae aQ.out dU);have nG:=zH aH;clear aH dU
 go_wp2_with (go_at_call 22;refine HP.out.mono ?_;rintro e w5 ⟨⟨k5,rfl⟩,bg⟩
              have HD5:=zH (nG.out.seq bg)
              clear bg)
 all_goals
  go_ret;exact⟨⟨_,rfl⟩,HD5.out⟩
