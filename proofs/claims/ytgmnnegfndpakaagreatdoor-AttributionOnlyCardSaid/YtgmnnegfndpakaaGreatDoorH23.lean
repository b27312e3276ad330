import Derived.Test.YtgmnnegfndpakaaGreatDoorRangeW
import Derived.Test.YtgmnnegfndpakaaGreatDoorH21
import Derived.Sort.QuietTacIn
import Derived.Sort.QuietThIn
set_option maxHeartbeats 20000000
set_option maxRecDepth 100000
namespace Go.Proofs.YtgmnnegfndpakaaGreatDoor
open Go.RowKit Go.Proofs.Tryz
variable{F:Fence}{rr n:Nat}{P:Program}{o:Oper}{a:Act}{Q:Exit->Act->World->Prop}{w:World}
section
open Go.Shelf
attribute [local go_sem] Oper.semAt_some
theorem uponIn_round{next:Act->World->Prop}{r:Result Next}(h:o.uponIn F n P a next Q r):o.uponIn (F.inRound rr) n P a next Q r:=h
theorem Bg{md:Region.Mode}{ops:Array Oper}(hd:∀(i:Nat) (o:Oper),ops[i]?=o->∀c,o.op≠.defer c):
 ∀(fuel:Nat) (listed:Array Bool) (a:Act) (w:World),wpAnyIn F n P md ops Q fuel listed a w->wpAnyIn (F.inRound rr) n P md ops Q fuel listed a w
 | 0,_,_,_,h=>h
 | fuel+1,listed,a,w,h=>by
   refine⟨h.1,λi hi=>?_⟩;have h2:=h.2 i hi;unfold wpOpIn at h2 ⊢
   cases ho:ops[i]? with
   | none=>rw[ho] at h2;exact Bg hd fuel _ _ _ h2
   | some o=>
     rw[ho] at h2;simp only at h2 ⊢
     split at h2
     ·rename_i hw;rw[j6 hw];have h3:=Oper.wpIn_mono (K':=wpAnyIn (F.inRound rr) n P md ops Q fuel (listed.setIfInBounds i true)) (λa w h=>Bg hd fuel _ a w h) h2;unfold Oper.wpIn at h3 ⊢;rw[Oper.semAt_eq _ _ _ (hd i o ho)] at h3 ⊢;exact⟨h3.1,uponIn_round h3.2⟩
     rename_i hw;rw[j5 hw];exact⟨h2.1,Bg hd fuel _ _ _ h2.2⟩
theorem Ub{id:Nat}{l:List Oper}(Cf:F.round=none)(hm:P.follows .mixedOrders=true)(hB:Region.lexB .any l.toArray=true)
 (hd:∀(i:Nat) (o:Oper),l.toArray[i]?=o->∀c,o.op≠.defer c)
 (h:wpQuietIn F n P l.toArray (λw'=>∃p:Since w,w'=p.wld) (λa'=>∀w',(∃p:Since w,w'=p.wld)->Q .normal a' w') l a):(Code.region id l.toArray true).wpIn (F.inRound rr) n P Q a w:=by
 simp only[Region.lexB,z7] at hB;refine wpIn_region_any hm (Bg hd _ _ _ _ (wpAnyIn_of_quiet (C:=λw'=>∃p:Since w,w'=p.wld) (Q:=λa'=>∀w',(∃p:Since w,w'=p.wld)->Q .normal a' w') Cf (λ_ w' hw' h=>h w' hw') _ _ _ _ ⟨⟨w.drew,⟨rfl,rfl,rfl,zR _,λ_ _=>rfl⟩⟩,rfl⟩ ?_));have:=wpAnyQIn_lex (F:=F) (n:=n) (C:=λw'=>∃p:Since w,w'=p.wld) (md:=.any) hB.1 l 0 (Array.replicate l.toArray.size false) a zP (by simpa using hB.2) h;simpa using this
theorem Oj:Fence.wide.depth.isSome=true->1<=n:=λh=>by cases h
theorem ahL{C:World->Prop}:o.askedIn Fence.wide P a C:=λ_ _ _ _=>trivial
theorem Ol{f:FuncId}{args:Array Value}{p:Since w}{v:Value}
 (h:Calls P f args p.wld λe w'=>e= .returned v/\Below p.wld p.wld w'):CallsIn Fence.wide n P f args p.wld λe w''=>e= .returned v/\∃q:Since w,w''=q.wld:=
 t6.2 (Eo h)
theorem ade(w:World)(o o1 o2 o3 o4:Obj):∃w1,((((w.alloc o).alloc o1).alloc o2).alloc o3).alloc o4=w1/\w1.heap[w.heap.size]?=some o/\w1.heap[w.heap.size+1]?=some o1/\w1.heap[w.heap.size+1+1]?=some o2/\w1.heap[w.heap.size+1+1+1]?=some o3/\w1.heap[w.heap.size+1+1+1+1]?=some o4/\w.heap.size+1+1+1+1<w1.heap.size/\Bw w w1:=by
 obtain⟨w1,bI,h1,h2,h3,h4,hs,hb⟩:=Pz w o o1 o2 o3;have su:w1.heap.size=w.heap.size+1+1+1+1:=(by rw[<-bI];simp);rw[bI];refine⟨_,rfl,fK h1,fK h2,fK h3,fK h4,?_,by simp;omega,hb.alloc zO _⟩;rw[<-su];exact heap_alloc_new _ _
theorem Om{w2:World}{g g':Nat}{u0 u1:Value}(v:Bool)(e:Int)(h:w2.heap[g]?=Zc #[u0] 4)(h':w2.heap[g']?=Zc #[u1] 33)(dD:g≠g')(hb:Bw w w2)(hg:w<=g)(FK:w<=g'):
 ∃wf,(w2.setCell g v).setCell g' e=wf/\wf.heap[g]?=(Zc #[v] 4)/\wf.heap[g']?=(Zc #[e] 33)/\
  (∀k,k≠g->k≠g'->wf.heap[k]?=w2.heap[k]?)/\wf.heap.size=w2.heap.size/\Bw w wf:=by
 refine⟨_,rfl,?_,?_,λk h1 h2=>?_,by simp[World.setCell],(hb.setCell (p:=g) hg _).setCell (p:=g') FK _⟩
 ·exact dE dD (bD h)
 ·exact bD (dE (Ne.symm dD) h')
 rw[b7 _ _ _ _ h2,b7 _ _ _ _ h1]
theorem ang(h:Nat)(hw:Bool->Bool->Bool)(c1 c2:aT)(cs1 cs2:List Value)(w:World)(F1 F2:Nat->Prop)(LV:dA w F1 c1 cs1)(hr2:dA w F2 c2 cs2)(hT:Tab w)
 (hh:∀x y W,Cl h #[.bool x,.bool y] W λe w'=>e= .returned (.bool (hw x y))/\w'=W)
 (eH:∀x y W,(callFunc h #[.bool x,.bool y]).run prog W= .ok (.enter h #[.bool x,.bool y]) W):
 Rt 178 #[.agg cs1.toArray,.agg cs2.toArray,.func (.func h) #[] #[]] w (.tuple #[.bool (IK (WH (jF c1) (jF c2)) (TF (λx=>hw (vk c1 x.1 x.2) (vk c2 x.1 x.2)) (jP [c1,c2] ([],[])))),(WH (jF c1) (jF c2))]):=by
 obtain⟨e0,he0⟩:=zF (WH (jF c1) (jF c2));obtain⟨R,hR⟩:=zF (TF (λx=>hw (vk c1 x.1 x.2) (vk c2 x.1 x.2)) (jP [c1,c2] ([],[])));rw[he0,hR];obtain⟨O0,qG,HH⟩:=zJ3 he0 hR hh;have Ud:Hid (EJ [c1,c2]=e0):=zH (by rw[anf];exact he0);have YO:=LV.here;have aho:=hr2.here;obtain⟨k1,PH,PI,s1,A1,n1,JE,C9,J6,Gq,rfl⟩:=LV.cells;obtain⟨k2,ns2,nl2,s2,A2,n2,Ui,QU,UG,RQ,rfl⟩:=hr2.cells;obtain⟨w1,bI,S1,S2,S0,S6,S7,ar6,ai⟩:=ade w (Zc #[k1,PH,PI,s1,(A1,n1,JE),(C9,J6,Gq)] 26) (Zc #[k2,ns2,nl2,s2,(A2,n2,Ui),(QU,UG,RQ)] 26) (Zc #[.func (.func h) #[] #[]] 218) (Zc #[false] 4) (Zc #[(0:Int)] 33);obtain⟨O1,Ff,aQ,gY,Jc,yX,G5,HT⟩:=zK8 (zH (YO.below ai)) (zH (aho.below ai)) (zH S1) (zH S2) (zH S0) (zH S6) (zH S7) (zH (hT.below ai));obtain⟨p0,p1,p2,p3,p4,p5⟩:=gG aQ;obtain⟨q0,q1,q2,q3,q4,q5⟩:=gG gY;have hT0:=hT.lt;have xm:w.heap.size+1+1+1+1<w1:=zO;obtain⟨w2,mJ,T2,oW,ag⟩:=af w1 (Zc #[k1,PH,PI,s1,(A1,n1,JE),(C9,J6,Gq),k2,ns2,nl2,s2,(A2,n2,Ui),(QU,UG,RQ)] 26);have HRo:Hid (jO w2 (· <w2) [c1,c2] w1 2):=zH (jO.two ((O1.below (ag.mono zO)).wide (λb hb _=>by omega)) ((Ff.below (ag.mono zO)).wide (λb hb _=>by omega)) T2 zO);have H43:Hid (Rt 214 #[(w1,0,2,2)] w2 e0):=zH (by rw[<-Ud.out];exact afi [c1,c2] _ 2 2 w2 _ HRo zO);clear S1 S2 S0 S6 S7 T2 LV hr2 YO aho he0 hR hT hh;by_cases he:e0=0
 rotate_left 1
 ·have Ar:(e0 !=0)=true:=(by simpa using he);have HX:Hid (IK e0 R=false):=zH (j5 he);clear he;refine (t6 (n:=3)).1 ?_;refine callsIn_of_wp_marks func178 rfl trivial ?_ rfl;simp only[ntmps178,YV,z9,z24,Nat.reduceAdd,Nat.reduceSub,Ze,Zd,List.push_toArray,ZD,d6,m7]
  gi_wp2_with (refine⟨trivial,?_⟩;gi_at_call 214;refine (t6.2 H43).mono ?_;rintro e w3 ⟨rfl,az⟩;have SZ:=ae yX (ag.seq az);have SY:=ae G5 (ag.seq az);have JR:=zH SZ;have HSY:=zH SY;have f3:=k8 w3 (w.heap.size+1+1+1) 0 _ _ SZ;have f4:=k8 w3 (w.heap.size+1+1+1+1) 0 _ _ SY;have z0:=aO SZ;have z2:=aO SY;clear SZ SY)
  obtain⟨wf,UJ,Y1,Y2,-,-,WI⟩:=Om false e0 JR HSY zO (ai.seq (ag.seq az)) zO zO;have y0:=aO Y1;have y2:=aO Y2;rw[UJ];exact⟨.tuple #[false,e0],by simp[results,results178,go_sem,y0,y2],by rw[HX.out],WI⟩
 subst he;have Ar:((0:Int) !=0)=false:=rfl;have HX:Hid (IK 0 R=R):=zH (j6 rfl);have G9:=zH (QD (adb O0).1);have RG:=zH (QD (adb O0).2);refine (t6 (n:=3)).1 ?_;refine callsIn_of_wp_marks func178 rfl trivial ?_ rfl;simp only[ntmps178,YV,z9,z24,Nat.reduceAdd,Nat.reduceSub,Ze,Zd,List.push_toArray,ZD,d6,m7]
 gi_wp2_with (first | (refine⟨trivial,?_⟩;gi_at_call 214;refine (t6.2 H43).mono ?_;rintro e w3 ⟨rfl,az⟩;clear p0 p1 p2 p3 p4 p5 q0 q1 q2 q3 q4 q5;obtain⟨p0,p1,p2,p3,p4,p5⟩:=gG (ae aQ (ag.seq az));obtain⟨q0,q1,q2,q3,q4,q5⟩:=gG (ae gY (ag.seq az));obtain⟨w4,vV,T4,NU,aX⟩:=af w3 (.cells #[.int .i64 k1,.string PH,.string PI,.string s1,.slice A1 n1 JE,.slice C9 J6 Gq,.int .i64 k2,.string ns2,.string nl2,.string s2,.slice A2 n2 Ui,.slice QU UG RQ] 26);have su:=(ag.seq az).size;have HR4:Hid (jO w4 (· <w4) [c1,c2] (some ⟨w3,0,none⟩) 2):=zH (jO.two ((O1.below (((ag.seq az).seq aX).mono zO)).wide (λb hb _=>by omega)) ((Ff.below (((ag.seq az).seq aX).mono zO)).wide (λb hb _=>by omega)) T4 zO);clear T4) | (refine⟨trivial,?_⟩;gi_at_call 215;refine (t6.2 (abe [] none 0 0 [c1,c2] (some ⟨w3,0,none⟩) 2 2 w4 (λ_=>True) (· <w4) (aY.nil _ _ _ _ _) HR4 zO zO)).mono ?_;rintro e w5 ⟨g1,g2,rfl,hM,-,bg⟩;have HM:=zH hM;clear hM) | (refine⟨trivial,?_⟩;gi_at_call 216;refine (t6.2 (YN g1 g2 w5)).mono ?_;rintro e w6 ⟨rfl,jA,dQ⟩;have HBL:=zH jA;clear jA))
 have sK:Bw w1 w6:=(((ag.seq az).seq aX).seq bg).seq dQ;have ahM:=sK.size;have hs6:=aC HBL;have IY:w1.heap.size<=w5:=(((ag.seq az).seq aX).seq bg).size;obtain⟨Eb,HT6,aBU,aBV,adf,anh,ani⟩:=zK7 (zH (iI.below HM dQ)) (zH (HT.below sK)) (zH (ae aQ sK)) (zH (ae gY sK)) (zH (ae Jc sK)) (zH (ae yX sK)) (zH (ae G5 sK));have Du:Hid (iZ [c1,c2]<=200):=zH (by rw[iZ,iZ,iZ];have:=G9.1;have:=RG.1;omega);have HC:=zH (afh g1 g2 [c1,c2] [] (by rw[lI,lI,G9.2,RG.2];rfl) (by have:=Du.out;omega) zP (by have:=Du.out;simp;omega));have UA:Hid ((jP [c1,c2] ([],[])).1.length<1000/\(jP [c1,c2] ([],[])).2.length<1000):=zH (by have:=Iz [c1,c2] ([],[]);have:=Du.out;simp at*;omega);have Cb:w+1+1+1≠g1:=pV anh Eb.1;have FI:w+1+1+1+1≠g1:=pV ani Eb.1;have hx3:w+1+1+1≠g2:=pV anh Eb.2;have hx4:w+1+1+1+1≠g2:=pV ani Eb.2;obtain⟨f,hf⟩:∃f:Nm->Bool,(λx:Nm=>hw (vk c1 x.1 x.2) (vk c2 x.1 x.2))=f:=⟨_,rfl⟩;have yQ:=akz g1 g2 w5 _ _ _ _ _ (λk=>k=w+1+1+1\/k=w+1+1+1+1) w6 HC HBL Eb HT6 zO zO zO zO (by have:=UA.out;omega) (by have:=UA.out;omega);rw[anc] at yQ;obtain⟨L,hL⟩:=zF (abj (jP [c1,c2] ([],[])) []);rw[hL] at yQ;have HW:Hid (L.any f=R):=zH (by rw[<-qG.out,hf,<-hL];rfl);have HF:Hid (∀a b,f (a,b)=hw (pK c1 a b) (pK c2 a b)):=zH λa b=>(by rw[<-hf,Yq _ _ _ G9.2,Yq _ _ _ RG.2]);clear hf hL p0 p1 p2 p3 p4 p5 q0 q1 q2 q3 q4 q5
 refine aOX (gf:=236) (lb:=#[.pointer (some ⟨w5,0,none⟩)]) rfl (enters_of func236 zK rfl) yQ.toW (Kept.refl _ _) (λ_ _ _ _ _ _ _=>trivial) (X2:=λk=>k=w+1+1+1\/k=w+1+1+1+1) ⟨zO,zO⟩ ⟨zO,zO⟩ (λ_=>rfl)
  (λ_ pre W=>(∀y∈pre,f y=false)/\Bw w6 W)
  (λc _ W=>c= .ret/\R=true/\W.heap[w.heap.size+1+1+1]?=Zc #[true] 4/\W.heap[w.heap.size+1+1+1+1]?=Zc #[(0:Int)] 33/\Bw w W)
  (λ_ _ _ _=>trivial)
  (λT pre A B h ht _ hk=>⟨h.1,pX h.2 (zR _) hk (by rintro k hk (h1 | h1 | h1);have:=(ht k h1).1;omega;omega;omega)⟩)
  (λT pre A B h ht _ hk=>⟨h.1,pX h.2 (zR _) hk (by rintro k hk h1;have:=(ht k h1).1;omega)⟩)
  (λc pre A B h hk=>⟨h.1,h.2.1,bF h.2.2.1 hk zO,bF h.2.2.2.1 hk zO,pX h.2.2.2.2 (zR _) hk zS5⟩)
  (λW hb _=>⟨zP,hb⟩)
  (λx W=>{ tmps:=#[.agg #[.int .i64 k1,.string PH,.string PI,.string s1,.slice A1 n1 JE,.slice C9 J6 Gq],.agg #[.int .i64 k2,.string ns2,.string nl2,.string s2,.slice A2 n2 Ui,.slice QU UG RQ],.func (.func h) #[] #[],.pointer (some ⟨w,0,none⟩),.pointer (some ⟨w.heap.size+1,0,none⟩),.pointer (some ⟨w.heap.size+1+1,0,none⟩),.pointer (some ⟨w.heap.size+1+1+1,0,none⟩),.pointer (some ⟨w.heap.size+1+1+1+1,0,none⟩),.int .i64 0,.pointer (some ⟨W,0,none⟩),.agg #[.int .i64 k1,.string PH,.string PI,.string s1,.slice A1 n1 JE,.slice C9 J6 Gq],.agg #[.int .i64 k2,.string ns2,.string nl2,.string s2,.slice A2 n2 Ui,.slice QU UG RQ],.slice (some ⟨w1,0,none⟩) 2 2,.int .i64 0,.int .i64 0,.bool false,undef,.agg #[.int .i64 k1,.string PH,.string PI,.string s1,.slice A1 n1 JE,.slice C9 J6 Gq],.agg #[.int .i64 k2,.string ns2,.string nl2,.string s2,.slice A2 n2 Ui,.slice QU UG RQ],.slice (some ⟨w3,0,none⟩) 2 2,.agg #[.map (some g1),.map (some g2)],.func (.func 236) #[] #[.pointer (some ⟨w5,0,none⟩)],.agg #[.string x.1,.string x.2],undef,undef,undef,undef,undef,undef,undef,undef],defers:=[] })
  (λx W=>W.alloc (Zc #[x.1,x.2] 23)) (λ_ W=>(j9 _ _).alloc (zR _) _) ?assign ?body ?done ?stop
 case assign=>
  intro m l x W K hK;gi_wp2;exact hK
 case body=>
  rintro mm l T pre ⟨a,b⟩ W W2 ⟨Gn,mV⟩ mM - htb o8 hkW;have hW2:=hkW.size;have XC:(W.alloc (Zc #[a,b] 23)).heap.size=W.heap.size+1:=zS4;have S9:W2.heap[W.heap.size]?=Zc #[a,b] 23:=bF (heap_alloc_new W _) hkW zO;obtain⟨p0,p1,p2,p3,p4,p5⟩:=gG (ae aBU mV);obtain⟨q0,q1,q2,q3,q4,q5⟩:=gG (ae aBV mV);have o0:=aO (ae adf mV);obtain⟨r0,r1⟩:=dw S9;obtain⟨v1,hv1⟩:=zF (pK c1 a b);obtain⟨v2,Ue⟩:=zF (pK c2 a b);obtain⟨v,hv⟩:=zF (hw v1 v2);have VI:Bw w1 W2:=sK.trans (mV.mono ahM);have eu:w1.heap.size<=W2:=VI.size;have HV:Hid (f (a,b)=v):=zH (by rw[HF.out,hv1,Ue,hv]);have KR:Hid (∀p:Since W2,dA p.wld (· <w) c1 _/\dA p.wld (· <w) c2 _):=zH λp=>⟨O1.below ((VI.trans (p.below.mono eu)).mono zO),Ff.below ((VI.trans (p.below.mono eu)).mono zO)⟩;have C46:Hid (∀W,dA W (· <w) c1 [k1,PH,PI,s1,(A1,n1,JE),(C9,J6,Gq)]->Rt 191 #[.agg #[k1,PH,PI,s1,(A1,n1,JE),(C9,J6,Gq)],.agg #[a,b]] W v1):=zH λW h=>Yo a b c1 _ W _ h hv1;have D46:Hid (∀W,dA W (· <w) c2 [k2,ns2,nl2,s2,(A2,n2,Ui),(QU,UG,RQ)]->Rt 191 #[.agg #[k2,ns2,nl2,s2,(A2,n2,Ui),(QU,UG,RQ)],.agg #[a,b]] W v2):=zH λW h=>Yo a b c2 _ W _ h Ue;have HHv:Hid (∀W,Rt h #[v1,v2] W v):=zH λW=>(HH v1 v2 W).mono (by rintro e w' ⟨rfl,rfl⟩;exact⟨by rw[hv],j9 _ _⟩);obtain⟨aBW,XD,nG,XB,HP,kz⟩:=zK6 (eH v1 v2) (zH S9) (zH mV) (zH mM) (zH Gn) (zH htb);have dm:w6.heap.size<=W2:=mV.size;clear hv1 Ue hv S9 hkW Gn mM htb eH;gi_wp2;obtain⟨so0,sr0,sr1,sp0,sp1,sp2,sp3,sp4⟩:=zK8 (Since.cell o0) (Since.cell r0) (Since.cell r1) (Since.cell p0) (Since.cell p1) (Since.cell p2) (Since.cell p3) (Since.cell p4);obtain⟨sp5,sq0,sq1,sq2,sq3,sq4,sq5⟩:=zK7 (Since.cell p5) (Since.cell q0) (Since.cell q1) (Since.cell q2) (Since.cell q3) (Since.cell q4) (Since.cell q5);refine Ub rfl zK zK (by intro i o ho c hc;rcases i with _ | _ | _ | _ | _ | _ | _ | _ | _<;>first | (cases ho;cases hc) | (simp at ho)) ?_
  repeat
   (refine wpQuietIn_step ahL (λK hK=>?_)
    go_simp
    first
     | (refine hK _ ?_;clear hK K)
     | (apply Exists.intro
        refine⟨λ_=>?_,hK _ ?_⟩
        (first
          | (with_reducible exact⟨Oj,Ol (C46.out _ (KR.out _).1)⟩)
          | (with_reducible exact⟨Oj,Ol (D46.out _ (KR.out _).2)⟩)
          | (with_reducible exact⟨Oj,Ol (HHv.out _)⟩))
        clear hK K))
  refine wpQuietIn_nil ?_;intro W3 hq;have az:=Ap hq;clear hq KR p0 p1 p2 p3 p4 p5 q0 q1 q2 q3 q4 q5 o0 r0 r1 so0 sr0 sr1 sp0 sp1 sp2 sp3 sp4 sp5 sq0 sq1 sq2 sq3 sq4 sq5 aBW;have VJ:Bw w6 W3:=nG.trans (az.mono dm);cases v
  ·gi_wp2
   exact⟨Qh az,λy hy=>by
    rcases z12.1 hy with hy | hy
    ·exact HP y hy
    rw[og.1 hy];exact HV,VJ⟩
  have S3:=ae anh VJ;have S4:=ae ani VJ;obtain⟨f3,f4,z0,z2⟩:=zK4 (k8 W3 (w.heap.size+1+1+1) 0 _ _ S3) (k8 W3 (w.heap.size+1+1+1+1) 0 _ _ S4) (aO S3) (aO S4);obtain⟨wf,UJ,Y1,Y2,Kf,Zf,WI⟩:=Om true 0 S3 S4 zO (ai.seq (sK.trans (VJ.mono ahM))) zO zO;obtain⟨HY1,Uz,HWF⟩:=zJ3 Y1 Y2 UJ
  have HRT:Hid (R=true):=zH (by
   rw[<-HW.out,Qc]
   exact⟨(a,b),XB.subset zP,HV⟩)
  clear S3 S4 Y1 Y2 Kf UJ;gi_wp2;refine⟨?_,rfl,HRT,by rw[HWF.out];exact HY1,by rw[HWF.out];exact Uz,by rw[HWF.out];exact WI⟩;exact((Qh az).setCell (p:=⟨w.heap.size+1+1+1,0,none⟩) (.inl (.inl ⟨by show w.heap.size+1+1+1<w6+2;omega,.inl rfl⟩)) _).setCell (p:=⟨w.heap.size+1+1+1+1,0,none⟩) (.inl (.inl ⟨by show w.heap.size+1+1+1+1<w6+2;omega,.inr rfl⟩)) _
 case done=>
  rintro T xs W rfl ⟨dW,mV⟩ hK
  have HRN:Hid (R=false):=zH (by
   rw[<-HW.out]
   exact List.any_eq_false.2 λx hx=>by simp[dW x hx])
  have VI:Bw w1 W:=sK.trans (mV.mono ahM);have S3:=ae yX VI;have S4:=ae G5 VI;obtain⟨f3,f4,z0,z2⟩:=zK4 (k8 W (w.heap.size+1+1+1) 0 _ _ S3) (k8 W (w.heap.size+1+1+1+1) 0 _ _ S4) (aO S3) (aO S4);obtain⟨wf,UJ,Y1,Y2,Kf,Zf,WI⟩:=Om false 0 S3 S4 zO (ai.seq VI) zO zO;have HKf:=zH (run_takeDeferred (P:=prog) ((Kf w6 zO zO).trans hK));have hwk:Kept (λk=>k=w6) wf (wf.putObj w6 (.deferred none)):=dF _ _ _ rfl;have y0:=aO (bF Y1 hwk zO);have y2:=aO (bF Y2 hwk zO);have HE:=zH (pX WI (zR _) hwk zS5);clear S3 S4 Y1 Y2 Kf dW hK;(try simp only[Exit.inBlock,Exit.then]);gi_wp2;refine⟨zP,.inl ⟨_,_,rfl,HKf,?_⟩⟩;exact⟨.tuple #[false,(0:Int)],by simp[results,results178,go_sem,y0,y2],by rw[HX.out,HRN.out],HE⟩
 case stop=>
  rintro c pre W mM ⟨rfl,hRT,h1,h2,mV⟩ hK;have HRT:=zH hRT;clear hRT;gi_wp2;refine⟨zP,.inl ⟨_,_,rfl,run_takeDeferred hK,?_⟩⟩;have hk:Kept (λk=>k=w6) W (W.putObj w6 (.deferred none)):=dF _ _ _ rfl;have y0:=aO (bF h1 hk zO);have y2:=aO (bF h2 hk zO);exact⟨.tuple #[true,(0:Int)],by simp[results,results178,go_sem,y0,y2],by rw[HX.out,HRT.out],pX mV (zR _) hk zS5⟩
end
theorem anj(e:Int):WH e e=e:=by unfold WH;split<;>rfl
theorem atN(e:Int)(v:Bool)(h:e≠0):IK e v=false:=j5 h
theorem akH(c1:aT)(cs1:List Value)(w:World)(F1:Nat->Prop)(LV:dA w F1 c1 cs1)(hT:Tab w):
 Rt 146 #[.agg cs1.toArray] w (.tuple #[(IK (jF c1) (!(TF (ahc 0 c1 c1) (jP [c1,c1] ([],[]))))),(jF c1)]):=by
 obtain⟨e0,he0⟩:=zF (jF c1);obtain⟨v,hv⟩:=zF (TF (ahc 0 c1 c1) (jP [c1,c1] ([],[])));rw[he0,hv];have YO:=LV.here;obtain⟨k1,PH,PI,s1,A1,n1,JE,C9,J6,Gq,rfl⟩:=LV.cells;obtain⟨w1,bI,S1,lY,ai⟩:=af w (Zc #[k1,PH,PI,s1,(A1,n1,JE),(C9,J6,Gq)] 26);have p0:=gG S1
 have H64:Hid (Rt 178 #[.agg #[k1,PH,PI,s1,(A1,n1,JE),(C9,J6,Gq)],.agg #[k1,PH,PI,s1,(A1,n1,JE),(C9,J6,Gq)],.func (.func 179) #[] #[]] w1 (.tuple #[(IK e0 v),e0])):=zH (by
  have h:=ang 179 (λx _=>x) c1 c1 _ _ w1 _ _ (YO.below ai) (YO.below ai) (hT.below ai) (λx y W=>akD x y W) call65;rw[anj,he0] at h;rw[<-hv]
  exact h)
 clear S1 LV YO hT he0 hv;by_cases he:e0=0
 ·subst he;have Ar:((0:Int)==0)=true:=rfl;have HA:Hid (∀v,IK 0 v=v):=zH λv=>j6 rfl;have qZ:=zH (HA v);obtain⟨av,D6⟩:=zF (IK 0 v);rw[D6] at H64;obtain rfl:av=v:=D6.symm.trans qZ;clear D6 qZ;cases av
  all_goals
   go_enter func146,ntmps146;go_wp2_with fail;refine H64.mono ?_;rintro e w2 ⟨rfl,ag⟩;go_wp2_with fail
   go_ret2
   exact⟨by rw[HA.out];rfl,ai.seq ag⟩
 have Ar:(e0==0)=false:=(by simpa using he);have HA:=zH (λv=>atN e0 v he);obtain⟨av,D6⟩:=zF (IK e0 v);rw[D6] at H64;have HAV:=zH D6;clear he D6;go_enter func146,ntmps146;go_wp2_with fail;refine H64.mono ?_;rintro e w2 ⟨rfl,ag⟩;go_wp2_with fail
 go_ret2
 exact⟨by rw[HA.out];rfl,ai.seq ag⟩
