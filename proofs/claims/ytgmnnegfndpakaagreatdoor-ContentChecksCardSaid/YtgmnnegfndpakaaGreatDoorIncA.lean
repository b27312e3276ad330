import Derived.Test.YtgmnnegfndpakaaGreatDoorMakA
set_option maxHeartbeats 20000000
set_option maxRecDepth 100000
namespace Go.Proofs.YtgmnnegfndpakaaGreatDoor
open Go.RowKit
theorem aeC{w:World}{g:Nat}(h:w.heap[g]?=some (.cells #[.int .i64 0] 3)):aY w (λb=>g<=b/\b<w.heap.size) 1 aV [0] (some ⟨g,0,none⟩) 1:=by
 have ho:=sQ (n:=0) (base:=g) h (zR _);obtain⟨A',c',ev,aI,-,-⟩:=ho.row jd zD;obtain⟨rfl,-,rfl⟩:=z19 ev;exact aI
theorem aiM{w:World}{g:Nat}{t:TypeId}{fr:Nat×Nat}{v0 v1 v2 v3:Value}(h:w.heap[g]?=some (.cells #[v0,v1,v2,v3] t fr)):w.cell? ⟨g,0,none⟩=some v0/\w.cell? ⟨g,1,none⟩=some v1:=by
 refine⟨?_,?_⟩<;>rw[cell_of_row w g _ _ _ _ h]<;>rfl
theorem Tt{w:World}{g:Nat}{t:TypeId}{fr:Nat×Nat}{ca cb:List Value}(h:w.heap[g]?=some (.cells (ca++cb).toArray t fr)):cu w g 0 ca/\cu w g (0+ca.length) cb:=by
 refine⟨λj v hj=>?_,λj v hj=>?_⟩
 ·have hl:=(List.getElem?_eq_some_iff.1 hj).1
  rw[Nat.zero_add,cell_of_row w g _ _ _ _ h,List.getElem?_toArray,z20 hl];exact hj
 ·rw[Nat.zero_add,cell_of_row w g _ _ _ _ h,List.getElem?_toArray,z21 zO,Nat.add_sub_cancel_left]
  exact hj
theorem U8(p:aJ)(elems:List (List Nm))(cs:List Value)(w:World)(eA:Option Addr)(en ec:Nat)(hr:au w (· <w.heap.size) (aZ p) cs)(he:bM w (· <w.heap.size) 1 (elems.map nU) eA en)(jR:en<6000000000000)(hT:Tab w):
 Calls Tryz.prog 25 #[.agg cs.toArray,.slice eA en ec] w λe w'=>∃(MV:Option Addr) (MW MX:Nat) (MZ:Option Addr) (Na Nb:Nat) (Nc:Option Addr) (Nh Nj:Nat) (Nk:Option Addr) (Nl Np:Nat),e= .returned (.tuple #[.agg #[.slice MV MW MX,.slice MZ Na Nb,.slice Nc Nh Nj,.slice Nk Nl Np],.int .i64 (DJ p elems).2])/\Bw w w':=by
 refine (aoh p elems cs w eA en ec hr he jR hT).mono ?_;rintro e w' ⟨v1,v2,v3,v4,rfl,⟨nA,nn,nc,sA,sn,sc,hs,rfl,rfl,-,-,-,-,h3,h4,-⟩,hb⟩;obtain⟨A3,c3,rfl⟩:=h3.form;obtain⟨A4,c4,rfl⟩:=h4.form;exact⟨_,_,_,_,_,_,_,_,_,_,_,_,rfl,hb⟩
theorem aeD(pa pb:aJ)(elems:List (List Nm))(ca cb:List Value)(w:World)(eA:Option Addr)(en ec:Nat)(IQ:au w (· <w.heap.size) (aZ pa) ca)(JK:au w (· <w.heap.size) (aZ pb) cb)(he:bM w (· <w.heap.size) 1 (elems.map nU) eA en)(jR:en<6000000000000)(hT:Tab w):
 Calls Tryz.prog 17 #[.agg ca.toArray,.agg cb.toArray,.slice eA en ec] w λe w'=>∃v,e= .returned (.tuple #[.bool (Ls pa pb elems).1,v,.int .i64 (Ls pa pb elems).2.2])/\ax w' w.heap.size 23 2 dK (Ls pa pb elems).2.1 v/\Bw w w':=by
 obtain⟨ka,PT,PU,PV,PW,PX,PY,PZ,P6,P7,c1a,P8,P9,Qa,Qb,Qc,n0a,c0a,rfl,D5,-⟩:=aW IQ;obtain⟨kb,Qd,Qe,elb,Qg,Qh,Qi,Qj,Qk,n1b,Ql,Qm,Qn,Qo,Qp,Qq,n0b,c0b,rfl,yw,-⟩:=aW JK;obtain⟨w1,bI,S1,S2,nC,ai⟩:=ed w (.cells #[.int .i64 ka,.int .i64 PT,.int .i64 PU,.int .i64 PV,.int .i64 PW,.string PX,.string PY,.string PZ,.slice P6 P7 c1a,.slice P8 P9 Qa,.int .i64 Qb,.slice Qc n0a c0a] 29) (.cells #[.int .i64 kb,.int .i64 Qd,.int .i64 Qe,.int .i64 elb,.int .i64 Qg,.string Qh,.string Qi,.string Qj,.slice Qk n1b Ql,.slice Qm Qn Qo,.int .i64 Qp,.slice Qq n0b c0b] 29);obtain⟨RR,hR⟩:=zF (Ls pa pb elems);rw[hR];obtain⟨EA,hEA⟩:=zF (kN elems pa);obtain⟨EB,hEB⟩:=zF (kN elems pb);have q0:=aj S1;have r0:=aj S2;have HRA:=zH IQ;have HRB:=zH JK;have HE:=zH he;have HT:=zH hT;have aQ:=zH S1;have gY:=zH S2;have nK:=zH ai;have qG:=zH hR;have HEA:=zH hEA;have HEB:=zH hEB
 have HCA:Hid (∀W,Bw w W->Rt 13 #[.agg (o5 ka PT PU PV PW PX PY PZ P6 P7 c1a P8 P9 Qa Qb Qc n0a c0a),.slice eA en ec] W (.int .i64 EA)):=zH λW hb=>by rw[<-hEA];exact BQ elems pa _ eA en ec W _ _ (IQ.below hb) (he.below hb) jR
 have AV:Hid (∀W,Bw w W->Rt 13 #[.agg (o5 kb Qd Qe elb Qg Qh Qi Qj Qk n1b Ql Qm Qn Qo Qp Qq n0b c0b),.slice eA en ec] W (.int .i64 EB)):=zH λW hb=>by rw[<-hEB];exact BQ elems pb _ eA en ec W _ _ (JK.below hb) (he.below hb) jR
 clear IQ JK he hT S1 S2 hR hEA hEB;go_enter Tryz.func17,Tryz.ntmps17;go_wp2_with fail
 have UI:∀V,(Instr.index 90 (.agg #[.int .i64 ka,.int .i64 PT,.int .i64 PU,.int .i64 PV,.int .i64 PW,.string PX,.string PY,.string PZ,.slice P6 P7 c1a,.slice P8 P9 Qa,.int .i64 Qb,.slice Qc n0a c0a,.int .i64 kb,.int .i64 Qd,.int .i64 Qe,.int .i64 elb,.int .i64 Qg,.string Qh,.string Qi,.string Qj,.slice Qk n1b Ql,.slice Qm Qn Qo,.int .i64 Qp,.slice Qq n0b c0b]) (.int .i64 0)).run Tryz.prog V= .ok (.agg #[.int .i64 ka,.int .i64 PT,.int .i64 PU,.int .i64 PV,.int .i64 PW,.string PX,.string PY,.string PZ,.slice P6 P7 c1a,.slice P8 P9 Qa,.int .i64 Qb,.slice Qc n0a c0a]) V:=λV=>by kernel_rfl
 have hi1:∀V,(Instr.index 90 (.agg #[.int .i64 ka,.int .i64 PT,.int .i64 PU,.int .i64 PV,.int .i64 PW,.string PX,.string PY,.string PZ,.slice P6 P7 c1a,.slice P8 P9 Qa,.int .i64 Qb,.slice Qc n0a c0a,.int .i64 kb,.int .i64 Qd,.int .i64 Qe,.int .i64 elb,.int .i64 Qg,.string Qh,.string Qi,.string Qj,.slice Qk n1b Ql,.slice Qm Qn Qo,.int .i64 Qp,.slice Qq n0b c0b]) (.int .i64 1)).run Tryz.prog V= .ok (.agg #[.int .i64 kb,.int .i64 Qd,.int .i64 Qe,.int .i64 elb,.int .i64 Qg,.string Qh,.string Qi,.string Qj,.slice Qk n1b Ql,.slice Qm Qn Qo,.int .i64 Qp,.slice Qq n0b c0b]) V:=λV=>by kernel_rfl
 go_loopw [32] (λs32 W=>Bw w1 W/\(s32= .int .i64 0\/(s32= .int .i64 1/\Hid (EA=0))\/(s32= .int .i64 2/\Hid (EA=0)/\Hid (EB=0)))) (λs32 _=>2 - (intOf s32).toNat)
 case atStart=>exact⟨Below.refl _ _,.inl rfl⟩
 case round=>
  obtain⟨dU,hi⟩:=hrel
  rcases hi with rfl | ⟨rfl,H0⟩ | ⟨rfl,H0,H1⟩
  ·skip
   obtain⟨wz,UZ,SZ,bY,mr⟩:=af wr (.cells #[.int .i64 ka,.int .i64 PT,.int .i64 PU,.int .i64 PV,.int .i64 PW,.string PX,.string PY,.string PZ,.slice P6 P7 c1a,.slice P8 P9 Qa,.int .i64 Qb,.slice Qc n0a c0a] 29);obtain⟨z0,z1,z2,z3,z4,z5,z6,z7,z8,z9,nZ,og⟩:=aj SZ;have aH:Bw w wz:=(nK.out.seq dU).seq mr;have nG:=zH aH;have FO:=zH (dU.seq mr);clear SZ mr aH dU;by_cases hE:EA=0
   ·have jV:(EA !=0)=false:=by rw[hE];decide
    have ER:decide (EA≠0)=false:=(by rw[hE];decide);have HZ:=zH hE;clear hE
    go_wp2_with (go_at_call 13;refine (HCA.out _ nG.out).mono ?_;rintro e w2 ⟨rfl,ag⟩)
    go_roundw
    case rel=>exact⟨FO.out.seq ag,.inr (.inl ⟨by go_num,HZ⟩)⟩
    case measure=>(simp[intOf]<;>omega)
   ·have jV:(EA !=0)=true:=by simpa using hE
    have ER:decide (EA≠0)=true:=(by simpa using hE);have hR:=qG.out;unfold Ls at hR;rw[HEA.out,if_pos hE] at hR;subst hR;clear hE
    go_wp2_with (go_at_call 13;refine (HCA.out _ nG.out).mono ?_;rintro e w2 ⟨rfl,ag⟩)
    refine bodyPost_ret (v:=.tuple #[.bool false,.slice none 0 0,.int .i64 EA]) (by simp[results,Tryz.results17,go_sem]) rfl ?_;exact⟨_,rfl,ax.nil _ _ _ _ _,nG.out.seq ag⟩
  ·skip
   obtain⟨wz,UZ,SZ,bY,mr⟩:=af wr (.cells #[.int .i64 kb,.int .i64 Qd,.int .i64 Qe,.int .i64 elb,.int .i64 Qg,.string Qh,.string Qi,.string Qj,.slice Qk n1b Ql,.slice Qm Qn Qo,.int .i64 Qp,.slice Qq n0b c0b] 29);obtain⟨z0,z1,z2,z3,z4,z5,z6,z7,z8,z9,nZ,og⟩:=aj SZ;have aH:Bw w wz:=(nK.out.seq dU).seq mr;have nG:=zH aH;have FO:=zH (dU.seq mr);clear SZ mr aH dU;by_cases hE:EB=0
   ·have jV:(EB !=0)=false:=by rw[hE];decide
    have ER:decide (EB≠0)=false:=(by rw[hE];decide);have HZ:=zH hE;clear hE
    go_wp2_with (go_at_call 13;refine (AV.out _ nG.out).mono ?_;rintro e w2 ⟨rfl,ag⟩)
    go_roundw
    case rel=>exact⟨FO.out.seq ag,.inr (.inr ⟨by go_num,H0,HZ⟩)⟩
    case measure=>(simp[intOf]<;>omega)
   ·have jV:(EB !=0)=true:=by simpa using hE
    have ER:decide (EB≠0)=true:=(by simpa using hE);have hR:=qG.out;unfold Ls at hR;rw[HEA.out,HEB.out,if_neg (by rw[H0.out];simp),if_pos hE] at hR;subst hR;clear hE
    go_wp2_with (go_at_call 13;refine (AV.out _ nG.out).mono ?_;rintro e w2 ⟨rfl,ag⟩)
    refine bodyPost_ret (v:=.tuple #[.bool false,.slice none 0 0,.int .i64 EB]) (by simp[results,Tryz.results17,go_sem]) rfl ?_;exact⟨_,rfl,ax.nil _ _ _ _ _,nG.out.seq ag⟩
  ·have aH:Bw w wr:=nK.out.seq dU
   have nG:=zH aH;have qZ:=zH (ae aQ.out dU);have DU:=zH (ae gY.out dU);clear aH dU q0 r0;have q0:=aj qZ.out;have r0:=aj DU.out;go_wp2_with fail;obtain⟨MA,hMA⟩:=zF ((DJ pa elems).2);obtain⟨MB,hMB⟩:=zF ((DJ pb elems).2);have KO:Hid (∀W,Bw w W->Calls Tryz.prog 25 #[.agg (o5 ka PT PU PV PW PX PY PZ P6 P7 c1a P8 P9 Qa Qb Qc n0a c0a),.slice eA en ec] W λe w'=>∃(MV:Option Addr) (MW MX:Nat) (MZ:Option Addr) (Na Nb:Nat) (Nc:Option Addr) (Nh Nj:Nat) (Nk:Option Addr) (Nl Np:Nat),e= .returned (.tuple #[.agg #[.slice MV MW MX,.slice MZ Na Nb,.slice Nc Nh Nj,.slice Nk Nl Np],.int .i64 MA])/\Bw W w'):=zH λW hb=>(by rw[<-hMA];exact U8 pa elems _ W eA en ec ((HRA.out.below hb).keep λq hq=>⟨by have:=hb.size;omega,rfl⟩) ((HE.out.below hb).keep λq hq=>⟨by have:=hb.size;omega,rfl⟩) jR (HT.out.below hb));have HMB:Hid (∀W,Bw w W->Calls Tryz.prog 25 #[.agg (o5 kb Qd Qe elb Qg Qh Qi Qj Qk n1b Ql Qm Qn Qo Qp Qq n0b c0b),.slice eA en ec] W λe w'=>∃(MV:Option Addr) (MW MX:Nat) (MZ:Option Addr) (Na Nb:Nat) (Nc:Option Addr) (Nh Nj:Nat) (Nk:Option Addr) (Nl Np:Nat),e= .returned (.tuple #[.agg #[.slice MV MW MX,.slice MZ Na Nb,.slice Nc Nh Nj,.slice Nk Nl Np],.int .i64 MB])/\Bw W w'):=zH λW hb=>(by rw[<-hMB];exact U8 pb elems _ W eA en ec ((HRB.out.below hb).keep λq hq=>⟨by have:=hb.size;omega,rfl⟩) ((HE.out.below hb).keep λq hq=>⟨by have:=hb.size;omega,rfl⟩) jR (HT.out.below hb));have aoA:=zH hMA;have awj:=zH hMB;clear hMA hMB
   rename World=>wo
   go_loopw [45] (λs45 W=>Bw wo W/\(s45= .int .i64 0\/(s45= .int .i64 1/\Hid (MA=0))\/(s45= .int .i64 2/\Hid (MA=0)/\Hid (MB=0)))) (λs45 _=>2 - (intOf s45).toNat)
   case atStart=>exact⟨Below.refl _ _,.inl rfl⟩
   case round=>
    obtain⟨dU,hi⟩:=hrel
    rcases hi with rfl | ⟨rfl,H2⟩ | ⟨rfl,H2,H3⟩
    ·skip
     obtain⟨wz,UZ,SZ,bY,mr⟩:=af wr (.cells #[.int .i64 ka,.int .i64 PT,.int .i64 PU,.int .i64 PV,.int .i64 PW,.string PX,.string PY,.string PZ,.slice P6 P7 c1a,.slice P8 P9 Qa,.int .i64 Qb,.slice Qc n0a c0a] 29);obtain⟨z0,z1,z2,z3,z4,z5,z6,z7,z8,z9,nZ,og⟩:=aj SZ;have jS:Bw w wz:=(nG.out.seq dU).seq mr;have U9:=zH jS;have FO:=zH (dU.seq mr);clear SZ mr jS dU;by_cases hE:MA=0
     ·have jV:(MA !=0)=false:=by rw[hE];decide
      have ER:decide (MA≠0)=false:=(by rw[hE];decide);have HZ:=zH hE;clear hE
      go_wp2_with (go_at_call 25;refine (KO.out _ U9.out).mono ?_
                   rintro e w2 ⟨MV,MW,MX,MZ,Na,Nb,Nc,Nh,Nj,Nk,Nl,Np,rfl,ag⟩
                   obtain⟨w3,vU,S3,su,az⟩:=af w2 (.cells #[.slice MV MW MX,.slice MZ Na Nb,.slice Nc Nh Nj,.slice Nk Nl Np] 51))
      go_roundw
      case rel=>exact⟨(FO.out.seq ag).seq az,.inr (.inl ⟨by go_num,HZ⟩)⟩
      case measure=>(simp[intOf]<;>omega)
     ·have jV:(MA !=0)=true:=by simpa using hE
      have ER:decide (MA≠0)=true:=(by simpa using hE);have hR:=qG.out;unfold Ls at hR;rw[HEA.out,HEB.out,if_neg (by rw[H0.out];simp),if_neg (by rw[H1.out];simp),aoA.out,if_pos hE] at hR;subst hR;clear hE
      go_wp2_with (go_at_call 25;refine (KO.out _ U9.out).mono ?_
                   rintro e w2 ⟨MV,MW,MX,MZ,Na,Nb,Nc,Nh,Nj,Nk,Nl,Np,rfl,ag⟩
                   obtain⟨w3,vU,S3,su,az⟩:=af w2 (.cells #[.slice MV MW MX,.slice MZ Na Nb,.slice Nc Nh Nj,.slice Nk Nl Np] 51))
      refine bodyPost_ret (v:=.tuple #[.bool false,.slice none 0 0,.int .i64 MA]) (by simp[results,Tryz.results17,go_sem]) rfl ?_;exact⟨_,rfl,ax.nil _ _ _ _ _,(U9.out.seq ag).seq az⟩
    ·skip
     obtain⟨wz,UZ,SZ,bY,mr⟩:=af wr (.cells #[.int .i64 kb,.int .i64 Qd,.int .i64 Qe,.int .i64 elb,.int .i64 Qg,.string Qh,.string Qi,.string Qj,.slice Qk n1b Ql,.slice Qm Qn Qo,.int .i64 Qp,.slice Qq n0b c0b] 29);obtain⟨z0,z1,z2,z3,z4,z5,z6,z7,z8,z9,nZ,og⟩:=aj SZ;have jS:Bw w wz:=(nG.out.seq dU).seq mr;have U9:=zH jS;have FO:=zH (dU.seq mr);clear SZ mr jS dU;by_cases hE:MB=0
     ·have jV:(MB !=0)=false:=by rw[hE];decide
      have ER:decide (MB≠0)=false:=(by rw[hE];decide);have HZ:=zH hE;clear hE
      go_wp2_with (go_at_call 25;refine (HMB.out _ U9.out).mono ?_
                   rintro e w2 ⟨MV,MW,MX,MZ,Na,Nb,Nc,Nh,Nj,Nk,Nl,Np,rfl,ag⟩
                   obtain⟨w3,vU,S3,su,az⟩:=af w2 (.cells #[.slice MV MW MX,.slice MZ Na Nb,.slice Nc Nh Nj,.slice Nk Nl Np] 51))
      go_roundw
      case rel=>exact⟨(FO.out.seq ag).seq az,.inr (.inr ⟨by go_num,H2,HZ⟩)⟩
      case measure=>(simp[intOf]<;>omega)
     ·have jV:(MB !=0)=true:=by simpa using hE
      have ER:decide (MB≠0)=true:=(by simpa using hE);have hR:=qG.out;unfold Ls at hR;rw[HEA.out,HEB.out,if_neg (by rw[H0.out];simp),if_neg (by rw[H1.out];simp),aoA.out,awj.out,if_neg (by rw[H2.out];simp),if_pos hE] at hR;subst hR;clear hE
      go_wp2_with (go_at_call 25;refine (HMB.out _ U9.out).mono ?_
                   rintro e w2 ⟨MV,MW,MX,MZ,Na,Nb,Nc,Nh,Nj,Nk,Nl,Np,rfl,ag⟩
                   obtain⟨w3,vU,S3,su,az⟩:=af w2 (.cells #[.slice MV MW MX,.slice MZ Na Nb,.slice Nc Nh Nj,.slice Nk Nl Np] 51))
      refine bodyPost_ret (v:=.tuple #[.bool false,.slice none 0 0,.int .i64 MB]) (by simp[results,Tryz.results17,go_sem]) rfl ?_;exact⟨_,rfl,ax.nil _ _ _ _ _,(U9.out.seq ag).seq az⟩
    ·skip
     have jS:Bw w wr:=nG.out.seq dU;have U9:=zH jS;have HA3:=zH (ae qZ.out dU);have lX:=zH (ae DU.out dU);clear jS dU q0 r0;have q0:=aj HA3.out;have r0:=aj lX.out;have aeE:Hid (kN elems pa=0):=zH (HEA.out.trans H0.out);have aeF:Hid (kN elems pb=0):=zH (HEB.out.trans H1.out);obtain⟨w3,vU,S3,su,az⟩:=af wr (.cells #[.int .i64 ka,.int .i64 PT,.int .i64 PU,.int .i64 PV,.int .i64 PW,.string PX,.string PY,.string PZ,.slice P6 P7 c1a,.slice P8 P9 Qa,.int .i64 Qb,.slice Qc n0a c0a,.int .i64 kb,.int .i64 Qd,.int .i64 Qe,.int .i64 elb,.int .i64 Qg,.string Qh,.string Qi,.string Qj,.slice Qk n1b Ql,.slice Qm Qn Qo,.int .i64 Qp,.slice Qq n0b c0b] 29);have jX:Bw w w3:=U9.out.seq az;have hsw:w.heap.size<=wr.heap.size:=U9.out.size;have Wu:=Tt (ca:=[.int .i64 ka,.int .i64 PT,.int .i64 PU,.int .i64 PV,.int .i64 PW,.string PX,.string PY,.string PZ,.slice P6 P7 c1a,.slice P8 P9 Qa,.int .i64 Qb,.slice Qc n0a c0a]) (cb:=[.int .i64 kb,.int .i64 Qd,.int .i64 Qe,.int .i64 elb,.int .i64 Qg,.string Qh,.string Qi,.string Qj,.slice Qk n1b Ql,.slice Qm Qn Qo,.int .i64 Qp,.slice Qq n0b c0b]) S3
     have Ih:bM w3 (· <w3.heap.size) 12 ([pa,pb].map aZ) (some ⟨wr.heap.size,0,none⟩) 2:=⟨rfl,λ_=>⟨wr.heap.size,0,rfl,su,by
      rw[List.map_cons,List.map_singleton,bK,bK,bK]
      exact⟨⟨_,Wu.1,(HRA.out.below jX).keep λq hq=>⟨by show q<w3.heap.size;omega,rfl⟩⟩,⟨_,Wu.2,(HRB.out.below jX).keep λq hq=>⟨by show q<w3.heap.size;omega,rfl⟩⟩,trivial⟩⟩⟩
     have iY:=VW aeE.out;have nJ:=VW aeF.out;have lQ:elems.flatten.length+mF [pa,pb]<=20000:=(by rw[mF,mF,mF];omega);have aN:=U0 elems [pa,pb] eA en ec (some ⟨wr.heap.size,0,none⟩) 2 2 w3 ((HE.out.below jX).keep λq hq=>⟨by show q<w3.heap.size;omega,rfl⟩) jR Ih zO zO;have tJ:=Yf lQ;obtain⟨al,aoB⟩:=zF (mZ elems [pa,pb]);rw[aoB] at aN tJ;have HLT:=zH aN;have HAA:=zH aoB;have HAL:=zH tJ;have aoC:=zH jX;have awl:=zH az;clear aN aoB tJ lQ iY nJ Ih Wu jX az S3
     go_wp2_with (go_at_call 56;refine HLT.out.mono ?_
                  rintro e w4 ⟨ba,nA,nn,nc,sA,sn,sc,rfl,awm,aX⟩;have wU:Bw w w4:=aoC.out.seq aX;have aDk:=zH awm;have ah7:=zH wU;have HA4:=zH (ae HA3.out (awl.out.seq aX));have HB4:=zH (ae lX.out (awl.out.seq aX))
                  clear awm aX wU q0 r0)
     have aeG:Bw w w4.drew:=ah7.out.drew;have awn:=FP pa elems _ w4.drew eA en ec ((HRA.out.below aeG).keep λq hq=>⟨by have:=aeG.size;omega,rfl⟩) ((HE.out.below aeG).keep λq hq=>⟨by have:=aeG.size;omega,rfl⟩) jR aeE.out;have aDl:=zH awn;clear awn aeG;have hHeld:Held (λV=>(V.cell? ⟨w.heap.size,0,none⟩=some (.int .i64 ka)/\V.cell? ⟨w.heap.size,1,none⟩=some (.int .i64 PT)/\V.cell? ⟨w.heap.size,2,none⟩=some (.int .i64 PU)/\V.cell? ⟨w.heap.size,3,none⟩=some (.int .i64 PV)/\V.cell? ⟨w.heap.size,4,none⟩=some (.int .i64 PW)/\V.cell? ⟨w.heap.size,5,none⟩=some (.string PX)/\V.cell? ⟨w.heap.size,6,none⟩=some (.string PY)/\V.cell? ⟨w.heap.size,7,none⟩=some (.string PZ)/\V.cell? ⟨w.heap.size,8,none⟩=some (.slice P6 P7 c1a)/\V.cell? ⟨w.heap.size,9,none⟩=some (.slice P8 P9 Qa)/\V.cell? ⟨w.heap.size,10,none⟩=some (.int .i64 Qb)/\V.cell? ⟨w.heap.size,11,none⟩=some (.slice Qc n0a c0a))/\(V.cell? ⟨w.heap.size+1,0,none⟩=some (.int .i64 kb)/\V.cell? ⟨w.heap.size+1,1,none⟩=some (.int .i64 Qd)/\V.cell? ⟨w.heap.size+1,2,none⟩=some (.int .i64 Qe)/\V.cell? ⟨w.heap.size+1,3,none⟩=some (.int .i64 elb)/\V.cell? ⟨w.heap.size+1,4,none⟩=some (.int .i64 Qg)/\V.cell? ⟨w.heap.size+1,5,none⟩=some (.string Qh)/\V.cell? ⟨w.heap.size+1,6,none⟩=some (.string Qi)/\V.cell? ⟨w.heap.size+1,7,none⟩=some (.string Qj)/\V.cell? ⟨w.heap.size+1,8,none⟩=some (.slice Qk n1b Ql)/\V.cell? ⟨w.heap.size+1,9,none⟩=some (.slice Qm Qn Qo)/\V.cell? ⟨w.heap.size+1,10,none⟩=some (.int .i64 Qp)/\V.cell? ⟨w.heap.size+1,11,none⟩=some (.slice Qq n0b c0b))) w4.drew:=⟨aj HA4.out,aj HB4.out⟩
     refine ah.stH hHeld 7 ?_;refine ah.tk 0 hHeld ?_;refine ah.tk 1 hHeld ?_;refine ah.tk 3 hHeld ?_;refine ah.tk 4 hHeld ?_;refine ah.on 2 λK hK=>?_;go_simp;refine aDl.out.mono ?_;rintro e w5 ⟨bmA,rfl,awo,bg,-,-⟩;have bg:Bw w4 w5:=⟨bg.os,bg.tape,bg.output,bg.size,bg.block⟩;have ES:Bw w w5:=ah7.out.seq bg;have KL:=FP pb elems _ w5 eA en ec ((HRB.out.below ES).keep λq hq=>⟨by have:=ES.size;omega,rfl⟩) ((HE.out.below ES).keep λq hq=>⟨by have:=ES.size;omega,rfl⟩) jR aeF.out;have HA5:=zH (ae HA4.out bg);have BU:=zH (ae HB4.out bg);have aDm:=zH KL;have aDn:=zH awo;have aoj:=zH ES;have aDo:=zH bg;clear KL awo bg ES;refine di hK (λ_=>⟨aj HA5.out,aj BU.out⟩) ?_;clear hK K;refine ah.on 5 λK hK=>?_;go_simp;refine aDm.out.mono ?_;rintro e w6 ⟨bmB,rfl,awp,dQ,-,-⟩;have HA6:=zH (ae HA5.out dQ);have KH:=zH (ae BU.out dQ);have awq:=zH awp;have awr:=zH (aDn.out.below dQ);have GG:=zH (aoj.out.seq dQ);have V5:=zH (aDk.out.below (aDo.out.seq dQ));have aDp:w5.heap.size<=w6.heap.size:=dQ.size;clear awp dQ;refine di hK (λ_=>⟨aj HA6.out,aj KH.out⟩) ?_;clear hK K;refine ah.on 6 λK hK=>?_;go_simp;refine di hK (λ_=>⟨aj HA6.out,aj KH.out⟩) ?_;clear hK K;refine ah.on 7 λK hK=>?_;go_simp;refine iW hK ?_;clear hK K hHeld;refine ah.dn ?_;obtain⟨w7,JX,SA,SB,SC,hs7,eP⟩:=rD w6 (.cells #[.int .i64 0] 3) (.cells #[.int .i64 0] 3) (.cells #[.slice (some ⟨w6.heap.size,0,none⟩) 1 1,.slice (some ⟨w6.heap.size+1,0,none⟩) 1 1,.int .i64 (-1),.int .i64 0] 96);go_upto_region 18 with fail;have n0:=(aiM SC).1;have n1:=(aiM SC).2
     have L8:=@run_makeMap Tryz.prog;have aiN:Hid (∀W,Bw w7 W->Rt 58 #[.slice (some ⟨w6.heap.size,0,none⟩) 1 1] W (.string (fH [0]))):=zH λW hb=>EM [0] _ 1 1 W _ (aeC (ae SA hb)) zD (by intro s hs;rw[List.mem_singleton] at hs;omega);have abE:Hid (∀W,Bw w7 W->Rt 58 #[.slice (some ⟨w6.heap.size+1,0,none⟩) 1 1] W (.string (fH [0]))):=zH λW hb=>EM [0] _ 1 1 W _ (aeC (ae SB hb)) zD (by intro s hs;rw[List.mem_singleton] at hs;omega);have pF:Hid (∀V,Bw w7 V->V.cell? ⟨w6.heap.size+1+1,0,none⟩=some (.slice (some ⟨w6.heap.size,0,none⟩) 1 1)/\V.cell? ⟨w6.heap.size+1+1,1,none⟩=some (.slice (some ⟨w6.heap.size+1,0,none⟩) 1 1)):=zH λV hb=>aiM (ae SC hb);have amx:∀V,(Instr.indexAt 97 (.slice (some ⟨w6.heap.size+1+1,0,none⟩) 1 1) (.int .i64 0)).run Tryz.prog V= .ok (.pointer (some ⟨w6.heap.size+1+1,0,none⟩)) V:=λV=>dN (P:=Tryz.prog) 97 96 4 Tryz.underlying97 (λw=>by kernel_rfl) (rfl:(some ⟨w6.heap.size+1+1,0,none⟩:Option Addr)=some ⟨w6.heap.size+1+1,0,none⟩) 1 1 0 zD V
     go_cut [20] (λs20 wk=>∃g,s20= .map (some g)/\Ak wk g [⟨[0],[0],-1,0⟩]/\w7.heap.size<=g/\Bw w7 wk)
     case first=>
      as_aux_lemma=>
       have hHeld:Held (λV=>V.cell? ⟨w6.heap.size+1+1,0,none⟩=some (.slice (some ⟨w6.heap.size,0,none⟩) 1 1)/\V.cell? ⟨w6.heap.size+1+1,1,none⟩=some (.slice (some ⟨w6.heap.size+1,0,none⟩) 1 1)) w7.drew:=⟨n0,n1⟩;refine ah.stH hHeld 13 ?_;refine ah.tk 1 hHeld ?_;refine ah.tk 2 hHeld ?_;refine ah.tk 3 hHeld ?_;refine ah.tk 4 hHeld ?_;refine ah.tk 6 hHeld ?_;refine ah.tk 7 hHeld ?_;refine ah.tk 8 hHeld ?_;refine ah.tk 9 hHeld ?_;refine ah.tw 0 5 (λK hK=>?_) (λK hK=>?_)
       ·obtain⟨v1,aws,SM,awt,ab2⟩:=af w7.drew (.map #[] 0)
        have jk:Bw w7 v1:=((Below.refl w7.heap.size w7).drew).trans (ab2.mono (show w7.heap.size<=(w7.drew).heap.size from ((Below.refl w7.heap.size w7).drew).size));have jE:=zH SM;have lC:Hid (w7.heap.size<=w7.drew.heap.size):=zH (zR _);clear SM ab2;go_simp;refine di hK (λ_=>pF.out _ jk) ?_;clear hK K;refine ah.on 5 λK hK=>?_;go_simp;refine (aiN.out _ (jk)).mono ?_;rintro e v2 ⟨rfl,ng⟩;have fP:Bw w7 v2:=(jk).trans (ng.mono (show w7.heap.size<=(v1).heap.size from (jk).size));replace jE:=zH (ae jE.out ng);clear ng;refine di hK (λ_=>pF.out _ fP) ?_;clear hK K;refine ah.on 10 λK hK=>?_;go_simp;refine (abE.out _ (fP)).mono ?_;rintro e v3 ⟨rfl,iQ⟩;have iL:Bw w7 v3:=(fP).trans (iQ.mono (show w7.heap.size<=(v2).heap.size from (fP).size));replace jE:=zH (ae jE.out iQ);clear iQ;refine di hK (λ_=>pF.out _ iL) ?_;clear hK K;refine ah.on 11 λK hK=>?_;go_simp;refine di hK (λ_=>pF.out _ iL) ?_;clear hK K;refine ah.on 12 λK hK=>?_;refine KE rfl (.tmp 73) (.tmp 84) (.const (.bool true)) 101 rfl (et:=4) (val:=bV) TN Tryz.underlying101 _ [] rfl jE.out (fH [0],fH [0]) rfl true rfl ?_;intro vz g1 g2 g3 g4;have mr:Bw w7 vz:=iL.trans ((Kept.below g4 (B:=w7.heap.size) (iL.size) (λk hk e=>by have:=lC.out;omega)));refine di hK (λ_=>pF.out _ mr) ?_;clear hK K;refine ah.on 13 λK hK=>?_;go_simp;refine iW hK ?_;clear hK K;(try simp only[Act.put,dG,dH,dI]);refine ah.on 14 λK hK=>?_;go_simp;refine iW hK ?_;clear hK K;refine ah.dn ?_;go_wp2_with fail;go_meet
        case rel=>exact⟨_,rfl,Ak.start g1,lC.out,mr⟩
       ·go_simp
        refine (aiN.out _ ((Below.refl _ _).drew)).mono ?_;rintro e v1 ⟨rfl,ab2⟩;have jk:Bw w7 v1:=((Below.refl _ _).drew).trans (ab2.mono (show w7.heap.size<=w7.drew.heap.size from zR _));clear ab2;refine di hK (λ_=>pF.out _ jk) ?_;clear hK K;refine ah.tw 0 10 (λK hK=>?_) (λK hK=>?_)
        ·obtain⟨v2,awu,SM,awv,ng⟩:=af v1 (.map #[] 0)
         have fP:Bw w7 v2:=(jk).trans (ng.mono (jk).size);have jE:=zH SM;have lC:Hid (w7.heap.size<=v1.heap.size):=zH (jk).size;clear SM ng;go_simp;refine di hK (λ_=>pF.out _ fP) ?_;clear hK K;refine ah.on 10 λK hK=>?_;go_simp;refine (abE.out _ (fP)).mono ?_;rintro e v3 ⟨rfl,iQ⟩;have iL:Bw w7 v3:=(fP).trans (iQ.mono (fP).size);replace jE:=zH (ae jE.out iQ);clear iQ;refine di hK (λ_=>pF.out _ iL) ?_;clear hK K;refine ah.on 11 λK hK=>?_;go_simp;refine di hK (λ_=>pF.out _ iL) ?_;clear hK K;refine ah.on 12 λK hK=>?_;refine KE rfl (.tmp 73) (.tmp 84) (.const (.bool true)) 101 rfl (et:=4) (val:=bV) TN Tryz.underlying101 _ [] rfl jE.out (fH [0],fH [0]) rfl true rfl ?_;intro vz g1 g2 g3 g4;have mr:Bw w7 vz:=iL.trans ((Kept.below g4 (B:=w7.heap.size) (iL.size) (λk hk e=>by have:=lC.out;omega)));refine di hK (λ_=>pF.out _ mr) ?_;clear hK K;refine ah.on 13 λK hK=>?_;go_simp;refine iW hK ?_;clear hK K;(try simp only[Act.put,dG,dH,dI]);refine ah.on 14 λK hK=>?_;go_simp;refine iW hK ?_;clear hK K;refine ah.dn ?_;go_wp2_with fail;go_meet
         case rel=>exact⟨_,rfl,Ak.start g1,lC.out,mr⟩
        ·go_simp
         refine (abE.out _ (jk)).mono ?_;rintro e v2 ⟨rfl,ng⟩;have fP:Bw w7 v2:=(jk).trans (ng.mono (jk).size);clear ng;refine di hK (λ_=>pF.out _ fP) ?_;clear hK K;refine ah.tw 0 11 (λK hK=>?_) (λK hK=>?_)
         ·obtain⟨v3,aeH,SM,aeI,iQ⟩:=af v2 (.map #[] 0)
          have iL:Bw w7 v3:=(fP).trans (iQ.mono (fP).size);have jE:=zH SM;have lC:Hid (w7.heap.size<=v2.heap.size):=zH (fP).size;clear SM iQ;go_simp;refine di hK (λ_=>pF.out _ iL) ?_;clear hK K;refine ah.on 11 λK hK=>?_;go_simp;refine di hK (λ_=>pF.out _ iL) ?_;clear hK K;refine ah.on 12 λK hK=>?_;refine KE rfl (.tmp 73) (.tmp 84) (.const (.bool true)) 101 rfl (et:=4) (val:=bV) TN Tryz.underlying101 _ [] rfl jE.out (fH [0],fH [0]) rfl true rfl ?_;intro vz g1 g2 g3 g4;have mr:Bw w7 vz:=iL.trans ((Kept.below g4 (B:=w7.heap.size) (iL.size) (λk hk e=>by have:=lC.out;omega)));refine di hK (λ_=>pF.out _ mr) ?_;clear hK K;refine ah.on 13 λK hK=>?_;go_simp;refine iW hK ?_;clear hK K;(try simp only[Act.put,dG,dH,dI]);refine ah.on 14 λK hK=>?_;go_simp;refine iW hK ?_;clear hK K;refine ah.dn ?_;go_wp2_with fail;go_meet
          case rel=>exact⟨_,rfl,Ak.start g1,lC.out,mr⟩
         ·go_simp
          refine di hK (λ_=>pF.out _ fP) ?_;clear hK K;refine ah.on 0 λK hK=>?_;obtain⟨v3,aeH,SM,aeI,iQ⟩:=af v2 (.map #[] 0);have iL:Bw w7 v3:=(fP).trans (iQ.mono (fP).size);have jE:=zH SM;have lC:Hid (w7.heap.size<=v2.heap.size):=zH (fP).size;clear SM iQ;go_simp;refine di hK (λ_=>pF.out _ iL) ?_;clear hK K;refine ah.on 12 λK hK=>?_;refine KE rfl (.tmp 73) (.tmp 84) (.const (.bool true)) 101 rfl (et:=4) (val:=bV) TN Tryz.underlying101 _ [] rfl jE.out (fH [0],fH [0]) rfl true rfl ?_;intro vz g1 g2 g3 g4;have mr:Bw w7 vz:=iL.trans ((Kept.below g4 (B:=w7.heap.size) (iL.size) (λk hk e=>by have:=lC.out;omega)));refine di hK (λ_=>pF.out _ mr) ?_;clear hK K;refine ah.on 13 λK hK=>?_;go_simp;refine iW hK ?_;clear hK K;(try simp only[Act.put,dG,dH,dI]);refine ah.on 14 λK hK=>?_;go_simp;refine iW hK ?_;clear hK K;refine ah.dn ?_;go_wp2_with fail;go_meet
          case rel=>exact⟨_,rfl,Ak.start g1,lC.out,mr⟩
     case rest=>
      obtain⟨wk,hwk⟩:=zE wc;subst hwk;obtain⟨g,rfl,pz,hgw,jB⟩:=hcut;have aDq:=eP;have aqR:w6.heap.size<=w7.heap.size:=eP.size;have aww:Bw w6 wk:=eP.trans (jB.mono aqR);obtain⟨mA,hmA⟩:=zF (eU elems pa);obtain⟨mB,hmB⟩:=zF (eU elems pb);have aoD:=MH aeE.out;have aoE:=MH aeF.out;have aoF:=FW aeE.out;have aoG:=FW aeF.out;have hRR:=qG.out;unfold Ls at hRR;rw[aeE.out,aeF.out,if_neg zP,if_neg zP,aoA.out,awj.out,H2.out,H3.out,if_neg zP,if_neg zP,HAA.out] at hRR;rw[hmA] at aoD aoF awr hRR;rw[hmB] at aoE aoG awq hRR;obtain⟨K,hK⟩:=zF al.size;rw[hK] at hRR;have hKb:K<=50001:=(by rw[<-hK];unfold zZ.size;have:=HAL.out;omega);have awx:Hid (∀W,Bw w6 W->mO W w5.heap.size bmA mA):=zH λW hb=>awr.out.below (hb.mono aDp);have awy:Hid (∀W,Bw w6 W->mO W w6.heap.size bmB mB):=zH λW hb=>awq.out.below hb;have aoH:Hid (∀W,Bw w6 W->yH W ba al nA nn nc sA sn sc):=zH λW hb=>V5.out.below hb;have AX:Ei wk w6.heap.size [⟨⟨some ⟨w6.heap.size,0,none⟩,1,1⟩,⟨some ⟨w6.heap.size+1,0,none⟩,1,1⟩,-1,0⟩] (.slice (some ⟨w6.heap.size+1+1,0,none⟩) 1 1) [⟨[0],[0],-1,0⟩]:=(Ei.start (zR _) SA SB SC).below jB;have Za:=zH aoD;have Zb:=zH aoE;have aDr:=zH aoF;have aDs:=zH aoG;have Sr:=zH hK;have HKB:=zH hKb;have Ff:=zH hRR;have aDt:=zH AX;have aDu:=zH pz;have aDv:=zH aww;have HGW:=zH (zT aqR hgw);clear aoD aoE aoF aoG hRR hKb AX pz aww aDq jB hgw hmA hmB SA SB SC eP n0 n1 L8 amx aiN abE pF KO HMB HCA AV HLT HRA HRB
      have ayo:Hid (∀W set A n c x1 x2,Bw w6 W->aY W (· <W.heap.size) 1 aV set A n->(∀s∈set,jv mA s)->n<=1000000->Calls Tryz.prog 63 #[.pointer (some ⟨bmA,0,none⟩),.slice A n c,.agg #[.string x1,.string x2]] W λe w'=>∃A' c',e= .returned (.slice A' (lZ mA set (x1,x2)).length c')/\ax w' w6.heap.size 3 1 aV (lZ mA set (x1,x2)) (.slice A' (lZ mA set (x1,x2)).length c')/\Bw W w'):=zH λW set A n c x1 x2 hb hr hs hn=>by
       have bY:=hb.size;refine (Dv mA w5.heap.size bmA set A n c x1 x2 W (awx.out W hb) Za.out zO hr hn (λs h=>(hs s h).ok Za.out) aDr.out).mono ?_;rintro e w' ⟨v,rfl,ho,rX⟩;obtain⟨A',c',rfl⟩:=ho.form;exact⟨A',c',rfl,ho.low bY,rX⟩
      have ayp:Hid (∀W set A n c x1 x2,Bw w6 W->aY W (· <W.heap.size) 1 aV set A n->(∀s∈set,jv mB s)->n<=1000000->Calls Tryz.prog 63 #[.pointer (some ⟨bmB,0,none⟩),.slice A n c,.agg #[.string x1,.string x2]] W λe w'=>∃A' c',e= .returned (.slice A' (lZ mB set (x1,x2)).length c')/\ax w' w6.heap.size 3 1 aV (lZ mB set (x1,x2)) (.slice A' (lZ mB set (x1,x2)).length c')/\Bw W w'):=zH λW set A n c x1 x2 hb hr hs hn=>by
       have bY:=hb.size;refine (Dv mB w6.heap.size bmB set A n c x1 x2 W (awy.out W hb) Zb.out zO hr hn (λs h=>(hs s h).ok Zb.out) aDs.out).mono ?_;rintro e w' ⟨v,rfl,ho,rX⟩;obtain⟨A',c',rfl⟩:=ho.form;exact⟨A',c',rfl,ho.low bY,rX⟩
      go_wp2_with fail
      go_loopw [19,21] (λs19 s21 W=>∃(k:Nat) (ns:List Jm) (ts:List mW),s21= .int .i64 k/\Hid (Ei W w6.heap.size ns s19 ts)/\Hid (Ak W g ts)/\Hid (Ic mA mB K ts)/\k<=ts.length/\ts.length<=20000/\Hid (inLoop (xX mA al) (xX mB al) (qA mA) (qA mB) (iJ al) K (20001 - k) k ts=RR)/\Hid (Bw w6 W)) (λ_ s21 _=>20001 - (intOf s21).toNat)
      case atStart=>exact⟨0,_,_,rfl,aDt,aDu,zH (Ic.start _ _ _),Nat.zero_le _,zP,Ff,aDv⟩
      case round=>
       obtain⟨k,ns,ts,rfl,HND,MI,HTW,hkt,aDw,HIL,aeJ⟩:=hrel;obtain⟨fA,fc,rfl⟩:=HND.out.own.form;obtain⟨n19,aeK⟩:=zF ns.length;have htn:ts.length=n19:=HND.out.len.symm.trans aeK;rw[aeK] at HND;rw[aeK];rw[htn] at hkt aDw;have anP:w6.heap.size<=wr.heap.size:=aeJ.out.size;have aI4:=zH aeK;have HTN:=zH htn;clear aeK htn;by_cases aN:k<n19
       ·have jc:decide (k<n19)=true:=by simp;omega
        obtain⟨x,hx⟩:∃x,ts[k]?=some x:=⟨_,List.getElem?_eq_getElem (by have:=HTN.out;omega)⟩;have htw:=HTW.out k x hx;obtain⟨b1,xU,d1,A1,c1,A2,c2,ev,p0,p1,p2,p3,dO,Tu,hob⟩:=HND.out.read hx;rw[HTN.out] at ev dO;obtain⟨rfl,-,rfl⟩:=z19 ev;have jU:=HIL.out;rw[show 20001 - k=20000 - k+1 by omega,afo hx] at jU;obtain⟨gx,Ec⟩:=zF wr.heap.size;obtain⟨w8,Kt,S8,hs8,eX⟩:=af wr (.cells #[.slice A1 x.a.length c1,.slice A2 x.b.length c2,.int .i64 x.from_,.int .i64 (x.letter:Int)] 96);have aeM:Bw w6 w8:=aeJ.out.trans (eX.mono anP);have aoI:w6.heap.size<=w8.heap.size:=aeM.size;have hlp:LpI w6.heap.size g gx x A1 c1 A2 c2 w8 ns (.slice (some ⟨b1,xU,none⟩) n19 fc) ts:=⟨HND.out.below eX,MI.out.keep (eX.block g MI.out.lt),Tu.keep eX,hob.keep eX,Ec ▸ S8,λq hq=>by have:=(HND.out.own.block_lt hq).2;omega⟩;have hxa:=htw.a;have hxb:=htw.b;have hla:=htw.la;have hlb:=htw.lb;have aiO:=Ip mB w6.heap.size bmB x.b A2 x.b.length c2 w8 _ (awy.out w8 aeM) aoI hlp.xb.F5.2 zO (λs hs=>by have:=(hxb s hs).lt;have:=EO Zb.out;omega);have aiP:∀(W:World),Bw w8 W->Rt 59 #[.pointer (some ⟨bmA,0,none⟩),.slice A1 x.a.length c1] W (.bool (qA mA x.a)):=λW hb=>Ip mA w5.heap.size bmA x.a A1 x.a.length c1 W _ (awx.out W (aeM.trans (hb.mono aoI))) (by have:=hb.size;omega) (hlp.below hb).xa.F5.2 zO (λs hs=>by have:=(hxa s hs).lt;have:=EO Za.out;omega);obtain⟨eb,heb⟩:=zF (qA mB x.b);obtain⟨ea,hea⟩:=zF (qA mA x.a);rw[heb] at aiO jU;rw[hea] at aiP jU;obtain⟨n1,yB⟩:=zF x.a.length;obtain⟨n2,qY⟩:=zF x.b.length;rw[yB] at aiP Kt p0;rw[qY] at aiO Kt p1
        have HLP:=zH hlp;have awG:=zH aiP;have aoJ:=zH aiO;have Zc:=zH jU;have HX:=zH hx;have HXA:=zH hxa;have HXB:=zH hxb;have HLA:=zH hla;have HLB:=zH hlb;have aDx:=zH aeM;have IZ:=zH yB;have um:=zH qY;have Ac:=zH eX;clear hlp aiP aiO jU hx hxa hxb hla hlb aeM eX yB qY heb hea htw Tu hob ev;go_upto_region 23 with fail;rw[Ec] at S8;(try rw[Ec]);obtain⟨e0,e1,e2,e3⟩:=blk4 S8;rw[IZ.out] at e0;rw[um.out] at e1;clear S8 Ec
        go_cut [106] (λaDy wc=>aDy= .bool (eb&&!ea)/\Bw w8 wc)
        case first=>
         cases eb
         ·go_wp2_with (go_at_call 59;refine aoJ.out.mono ?_;rintro e w9 ⟨rfl,uF⟩)
          go_meet
          case rel=>exact⟨rfl,uF⟩
         ·go_wp2_with (first
             | (go_at_call 59;refine aoJ.out.mono ?_
                rintro e w9 ⟨rfl,uF⟩;obtain⟨e0,e1,e2,e3⟩:=blk4 (HLP.out.below uF).blk
                rw[IZ.out] at e0)
             | (go_at_call 59;refine (awG.out _ uF).mono ?_;rintro e oH ⟨rfl,Gp⟩))
          go_meet
          case rel=>exact⟨by cases ea<;>rfl,uF.seq Gp⟩
        case rest=>
         obtain⟨wb,hwb⟩:=zE wc;subst hwb;obtain⟨rfl,CZ⟩:=hcut;have jy:=zH CZ;have aoK:=zH (HLP.out.below CZ);have aoL:Bw w6 wb:=aDx.out.trans (CZ.mono aoI);have aoM:w6.heap.size<=wb.heap.size:=aoL.size;have aoN:=zH aoL;clear CZ aoL e0 e1 e2 e3 p0 p1 p2 p3 dO HLP awG aoJ;cases bZ:(eb&&!ea)
         ·rw[bZ] at Zc
          clear bZ
          as_aux_lemma=>
             have jU:=Zc.out;rw[if_neg zP] at jU;have aDz:=zH jU;clear jU Zc
             go_wp2_with (go_at_call 62;refine (U4 al ba nA nn nc sA sn sc wb (aoH.out wb aoN.out)).mono ?_
                          rintro e w9 ⟨rfl,uF⟩;rw[Sr.out];have aDA:=zH (aoK.out.below uF);have aiy:=zH (aoN.out.trans (uF.mono aoM))
                          clear uF)
             go_loopw [19,134] (λs19 aoO W=>∃(c:Nat) (ns':List Jm) (ts':List mW),aoO= .int .i64 c/\c<=K/\Hid (LpI w6.heap.size g gx x A1 c1 A2 c2 W ns' s19 ts')/\Hid (Ic mA mB K ts')/\Hid ((List.range c).foldl (nH (xX mA al x.a) (xX mB al x.b) k) ts=ts')/\Hid (Bw w6 W)) (λ_ aoO _=>K - (intOf aoO).toNat)
             case atStart=>exact⟨0,ns,ts,rfl,Nat.zero_le _,aDA,HTW,zH rfl,aiy⟩
             case round=>
              obtain⟨c,ns',ts',rfl,hcK,Zd,aiQ,HF,OW⟩:=hrel;obtain⟨fB,fd,rfl⟩:=Zd.out.nd.own.form;obtain⟨m19,aeN⟩:=zF ns'.length;have aoP:ts'.length=m19:=Zd.out.nd.len.symm.trans aeN;have uw:=X5 (xX mA al x.a) (xX mB al x.b) k ts c;rw[HF.out,aoP,HTN.out] at uw;rw[aeN] at Zd;rw[aeN];have aDB:w6.heap.size<=wr.heap.size:=OW.out.size;have awI:=zH aeN;have aiR:=zH aoP;have hmb:m19<1000000000:=(by have:=HKB.out;omega);clear aeN aoP;by_cases hck:c<K
              ·have sZ:decide (c<K)=true:=by simp;omega
               have hKo:K<=50001:=HKB.out;obtain⟨nm,rY⟩:=zF (iJ al c);obtain⟨x1,x2⟩:=nm;have hsA:=SI al c ba nA nn nc sA sn sc wr (aoH.out wr OW.out) (by have:=HKB.out;omega);rw[rY] at hsA;have hyA:xX mA al x.a c=lZ mA x.a (x1,x2):=(by unfold xX;rw[rY]);have hyB:xX mB al x.b c=lZ mB x.b (x1,x2):=(by unfold xX;rw[rY]);have aoQ:=Ir Za.out HXA.out (x1,x2);have aoR:=Ir Zb.out HXB.out (x1,x2);have aiS:=Jp Za.out HXA.out (x1,x2);have aiT:=Jp Zb.out HXB.out (x1,x2);have HBA:=ayo.out;have Eh:=ayp.out;obtain⟨ya,hya⟩:=zF (lZ mA x.a (x1,x2));obtain⟨yb,hyb⟩:=zF (lZ mB x.b (x1,x2));obtain⟨na,Pn⟩:=zF ya.length;obtain⟨nb,gX⟩:=zF yb.length;replace HBA:=λW A hb hr=>HBA W x.a A n1 c1 x1 x2 hb hr HXA.out (by have:=HLA.out;have:=IZ.out;omega);replace Eh:=λW A hb hr=>Eh W x.b A n2 c2 x1 x2 hb hr HXB.out (by have:=HLB.out;have:=um.out;omega);rw[hya] at hyA aoQ aiS HBA;rw[hyb] at hyB aoR aiT Eh;rw[Pn] at aiS HBA;rw[gX] at aiT Eh;have Df:=zH hsA;have HYA:=zH hyA;have HYB:=zH hyB;have awL:=zH aoQ;have awM:=zH aoR;have HBA:=zH HBA;have Eh:=zH Eh;have HNA:=zH Pn;have oG:=zH gX;have awN:=zH aiS;have awO:=zH aiT;clear hsA hyA hyB aoQ aoR aiS aiT Pn gX hya hyb rY
               go_upto_region 35 with (go_at_call 60;refine Df.out.mono ?_
                                       rintro e v1 ⟨rfl,jk⟩;obtain⟨u0,aI5,SN,aI6,aoS⟩:=af v1 (.cells #[.string x1,.string x2] 23);obtain⟨gn,hgn⟩:=zF v1.heap.size;rw[hgn] at SN;have HBU:=zH (jk.seq aoS);have aiU:=zH (Zd.out.below (jk.seq aoS));have RF:=zH SN
                                       clear SN jk aoS)
               have aoT:Bw w6 u0:=OW.out.trans (HBU.out.mono aDB);have aoU:w6.heap.size<=u0.heap.size:=aoT.size;have aoV:=zH aoT;clear aoT
               have pF:Hid (∀V,Bw u0 V->(V.cell? ⟨gx,0,none⟩=some (.slice A1 n1 c1)/\V.cell? ⟨gx,1,none⟩=some (.slice A2 n2 c2))/\V.cell? ⟨gn,0,none⟩=some (.string x1)/\V.cell? ⟨gn,1,none⟩=some (.string x2)):=zH λV hb=>by
                obtain⟨e0,e1,-,-⟩:=blk4 (aiU.out.below hb).blk;rw[IZ.out] at e0;rw[um.out] at e1;exact⟨⟨e0,e1⟩,dw (ae RF.out hb)⟩
               have aoW:Hid (∀W,Bw u0 W->Calls Tryz.prog 63 #[.pointer (some ⟨bmA,0,none⟩),.slice A1 n1 c1,.agg #[.string x1,.string x2]] W λe w'=>∃A' c',e= .returned (.slice A' na c')/\ax w' w6.heap.size 3 1 aV ya (.slice A' na c')/\Bw W w'):=zH λW hb=>HBA.out W A1 (aoV.out.trans (hb.mono aoU)) (by have:=(aiU.out.below hb).xa.F5.2;rwa [IZ.out] at this);have aiV:Hid (∀W,Bw u0 W->Calls Tryz.prog 63 #[.pointer (some ⟨bmB,0,none⟩),.slice A2 n2 c2,.agg #[.string x1,.string x2]] W λe w'=>∃A' c',e= .returned (.slice A' nb c')/\ax w' w6.heap.size 3 1 aV yb (.slice A' nb c')/\Bw W w'):=zH λW hb=>Eh.out W A2 (aoV.out.trans (hb.mono aoU)) (by have:=(aiU.out.below hb).xb.F5.2;rwa [um.out] at this)
               go_cut [27] (λs27 wd=>∃gy Aa ca Ab cb,s27= .pointer (some ⟨gy,0,none⟩)/\u0.heap.size<=gy/\wd.heap[gy]?=some (.cells #[.slice Aa na ca,.slice Ab nb cb,.int .i64 k,.int .i64 c] 96)/\ax wd w6.heap.size 3 1 aV ya (.slice Aa na ca)/\ax wd w6.heap.size 3 1 aV yb (.slice Ab nb cb)/\Bw u0 wd)
               case first=>
                as_aux_lemma=>
                 have hHeld:=pF.out u0.drew (Below.refl _ _).drew;refine ah.stN pF 14 ?_;refine ah.tk 0 hHeld ?_;refine ah.tk 1 hHeld ?_;refine ah.tk 2 hHeld ?_;refine ah.tk 3 hHeld ?_;refine ah.tk 5 hHeld ?_;refine ah.tk 6 hHeld ?_;refine ah.tk 7 hHeld ?_;refine ah.tk 8 hHeld ?_;refine ah.tk 10 hHeld ?_;refine ah.tk 11 hHeld ?_;refine ah.tw 4 13 (λK hK=>?_) (λK hK=>?_)
                 ·go_simp
                  refine (aoW.out _ (((Below.refl _ _).drew))).mono ?_;rintro e v1 ⟨Aa,ca,rfl,Tu,ab2⟩;have jk:Bw u0 v1:=(((Below.refl _ _).drew)).trans (ab2.mono (show u0.heap.size<=u0.drew.heap.size from zR _));have F6:=zH Tu;clear Tu ab2;refine di hK (λ_=>pF.out _ jk) ?_;clear hK K;refine ah.tw 9 13 (λK hK=>?_) (λK hK=>?_)
                  ·go_simp
                   refine (aiV.out _ (jk)).mono ?_;rintro e v2 ⟨Ab,cb,rfl,hob,ng⟩;have fP:Bw u0 v2:=(jk).trans (ng.mono (jk).size);replace F6:=zH (F6.out.keep ng);have Va:=zH hob;clear hob ng;refine di hK (λ_=>pF.out _ fP) ?_;clear hK K;refine ah.tw 12 13 (λK hK=>?_) (λK hK=>?_)
                   ·go_simp
                    refine di hK (λ_=>pF.out _ (fP)) ?_;clear hK K;refine ah.on 13 λK hK=>?_;obtain⟨v3,aeH,SM,aeI,iQ⟩:=af v2 (.cells #[.slice none 0 0,.slice none 0 0,.int .i64 0,.int .i64 0] 96);have iL:Bw u0 v3:=(fP).trans (iQ.mono (fP).size);have lC:Hid (u0.heap.size<=v2.heap.size):=zH (fP).size;have jE:=zH SM;clear SM;replace F6:=zH (F6.out.keep iQ);replace Va:=zH (Va.out.keep iQ);clear iQ;go_simp;refine di hK (λ_=>pF.out _ iL) ?_;clear hK K;have V0:=jE.out;obtain⟨z0,z1,z2,z3⟩:=blk4 V0;have f0:=frozen_of_row v3 (v2.heap.size) 0 _ _ V0;have f1:=frozen_of_row v3 (v2.heap.size) 1 _ _ V0;have f2:=frozen_of_row v3 (v2.heap.size) 2 _ _ V0;have f3:=frozen_of_row v3 (v2.heap.size) 3 _ _ V0;refine ah.on 14 λK hK=>?_;go_simp;refine iW hK ?_;clear hK K;refine ah.dn ?_;go_wp2_with fail;go_meet
                    case rel=>exact⟨_,_,_,_,_,rfl,lC.out,abY V0 _ _ _ _,F6.out.SH V0 zD _ _ _ _,Va.out.SH V0 zD _ _ _ _,tV iL lC.out _ _ _ _⟩
                   ·obtain⟨v3,aeH,SM,aeI,iQ⟩:=af v2 (.cells #[.slice none 0 0,.slice none 0 0,.int .i64 0,.int .i64 0] 96)
                    have iL:Bw u0 v3:=(fP).trans (iQ.mono (fP).size);have lC:Hid (u0.heap.size<=v2.heap.size):=zH (fP).size;have jE:=zH SM;clear SM;replace F6:=zH (F6.out.keep iQ);replace Va:=zH (Va.out.keep iQ);clear iQ;go_simp;refine di hK (λ_=>pF.out _ iL) ?_;clear hK K;refine ah.on 12 λK hK=>?_;go_simp;refine di hK (λ_=>pF.out _ (iL)) ?_;clear hK K;have V0:=jE.out;obtain⟨z0,z1,z2,z3⟩:=blk4 V0;have f0:=frozen_of_row v3 (v2.heap.size) 0 _ _ V0;have f1:=frozen_of_row v3 (v2.heap.size) 1 _ _ V0;have f2:=frozen_of_row v3 (v2.heap.size) 2 _ _ V0;have f3:=frozen_of_row v3 (v2.heap.size) 3 _ _ V0;refine ah.on 14 λK hK=>?_;go_simp;refine iW hK ?_;clear hK K;refine ah.dn ?_;go_wp2_with fail;go_meet
                    case rel=>exact⟨_,_,_,_,_,rfl,lC.out,abY V0 _ _ _ _,F6.out.SH V0 zD _ _ _ _,Va.out.SH V0 zD _ _ _ _,tV iL lC.out _ _ _ _⟩
                  ·obtain⟨v2,awu,SM,awv,ng⟩:=af v1 (.cells #[.slice none 0 0,.slice none 0 0,.int .i64 0,.int .i64 0] 96)
                   have fP:Bw u0 v2:=(jk).trans (ng.mono (jk).size);have lC:Hid (u0.heap.size<=v1.heap.size):=zH (jk).size;have jE:=zH SM;clear SM;replace F6:=zH (F6.out.keep ng);clear ng;go_simp;refine di hK (λ_=>pF.out _ fP) ?_;clear hK K;refine ah.on 9 λK hK=>?_;go_simp;refine (aiV.out _ (fP)).mono ?_;rintro e v3 ⟨Ab,cb,rfl,hob,iQ⟩;have iL:Bw u0 v3:=(fP).trans (iQ.mono (fP).size);replace jE:=zH (ae jE.out iQ);replace F6:=zH (F6.out.keep iQ);have Va:=zH hob;clear hob iQ;refine di hK (λ_=>pF.out _ iL) ?_;clear hK K;refine ah.on 12 λK hK=>?_;go_simp;refine di hK (λ_=>pF.out _ (iL)) ?_;clear hK K;have V0:=jE.out;obtain⟨z0,z1,z2,z3⟩:=blk4 V0;have f0:=frozen_of_row v3 (v1.heap.size) 0 _ _ V0;have f1:=frozen_of_row v3 (v1.heap.size) 1 _ _ V0;have f2:=frozen_of_row v3 (v1.heap.size) 2 _ _ V0;have f3:=frozen_of_row v3 (v1.heap.size) 3 _ _ V0;refine ah.on 14 λK hK=>?_;go_simp;refine iW hK ?_;clear hK K;refine ah.dn ?_;go_wp2_with fail;go_meet
                   case rel=>exact⟨_,_,_,_,_,rfl,lC.out,abY V0 _ _ _ _,F6.out.SH V0 zD _ _ _ _,Va.out.SH V0 zD _ _ _ _,tV iL lC.out _ _ _ _⟩
                 ·obtain⟨v1,aws,SM,awt,ab2⟩:=af u0.drew (.cells #[.slice none 0 0,.slice none 0 0,.int .i64 0,.int .i64 0] 96)
                  have jk:Bw u0 v1:=(((Below.refl _ _).drew)).trans (ab2.mono (show u0.heap.size<=u0.drew.heap.size from zR _));have lC:Hid (u0.heap.size<=u0.heap.size):=zH (zR _);have jE:Hid (v1.heap[u0.heap.size]?=some (.cells #[.slice none 0 0,.slice none 0 0,.int .i64 0,.int .i64 0] 96)):=zH SM;clear SM;clear ab2;go_simp;refine di hK (λ_=>pF.out _ jk) ?_;clear hK K;refine ah.on 4 λK hK=>?_;go_simp;refine (aoW.out _ (jk)).mono ?_;rintro e v2 ⟨Aa,ca,rfl,Tu,ng⟩;have fP:Bw u0 v2:=(jk).trans (ng.mono (jk).size);replace jE:=zH (ae jE.out ng);have F6:=zH Tu;clear Tu ng;refine di hK (λ_=>pF.out _ fP) ?_;clear hK K;refine ah.on 9 λK hK=>?_;go_simp;refine (aiV.out _ (fP)).mono ?_;rintro e v3 ⟨Ab,cb,rfl,hob,iQ⟩;have iL:Bw u0 v3:=(fP).trans (iQ.mono (fP).size);replace jE:=zH (ae jE.out iQ);replace F6:=zH (F6.out.keep iQ);have Va:=zH hob;clear hob iQ;refine di hK (λ_=>pF.out _ iL) ?_;clear hK K;refine ah.on 12 λK hK=>?_;go_simp;refine di hK (λ_=>pF.out _ (iL)) ?_;clear hK K;have V0:=jE.out;obtain⟨z0,z1,z2,z3⟩:=blk4 V0;have f0:=frozen_of_row v3 (u0.heap.size) 0 _ _ V0;have f1:=frozen_of_row v3 (u0.heap.size) 1 _ _ V0;have f2:=frozen_of_row v3 (u0.heap.size) 2 _ _ V0;have f3:=frozen_of_row v3 (u0.heap.size) 3 _ _ V0;refine ah.on 14 λK hK=>?_;go_simp;refine iW hK ?_;clear hK K;refine ah.dn ?_;go_wp2_with fail;go_meet
                  case rel=>exact⟨_,_,_,_,_,rfl,lC.out,abY V0 _ _ _ _,F6.out.SH V0 zD _ _ _ _,Va.out.SH V0 zD _ _ _ _,tV iL lC.out _ _ _ _⟩
               case rest=>
                obtain⟨wd,WZ⟩:=zE wc;subst WZ;obtain⟨gy,Aa,ca,Ab,cb,rfl,hgy,SY,Tu,hob,bP⟩:=hcut;have aDC:=zH (aiU.out.below bP);have awR:=zH (aoV.out.trans (bP.mono aoU));have HSY:=zH SY;have HOA:=zH Tu;have WY:=zH hob;clear SY Tu hob bP pF aoW aiV HBA Eh;go_upto_region 36 with fail
                have KW:Hid (∀V,Bw wd V->V.cell? ⟨gy,0,none⟩=some (.slice Aa na ca)/\V.cell? ⟨gy,1,none⟩=some (.slice Ab nb cb)):=zH λV hb=>by
                 obtain⟨e0,e1,-,-⟩:=blk4 (ae HSY.out hb);exact⟨e0,e1⟩
                have D5:∀s∈ya,s<65536:=jv.agL Za.out awL.out;have yw:∀s∈yb,s<65536:=jv.agL Zb.out awM.out;have Xj:=zH D5;have aoX:=zH yw;clear D5 yw;have awT:Hid (∀W,Bw wd W->Rt 58 #[.slice Aa na ca] W (.string (fH ya))):=zH λW hb=>EM ya Aa na ca W _ (HOA.out.keep hb).F5.2 (by have:=awN.out;omega) Xj.out;have aoY:Hid (∀W,Bw wd W->Rt 58 #[.slice Ab nb cb] W (.string (fH yb))):=zH λW hb=>EM yb Ab nb cb W _ (WY.out.keep hb).F5.2 (by have:=awO.out;omega) aoX.out
                go_cut [28] (λs28 we=>∃gp,s28= .pointer (some ⟨gp,0,none⟩)/\wd.heap.size<=gp/\we.heap[gp]?=some (.cells #[.string (fH ya),.string (fH yb)] 100)/\Bw wd we)
                case first=>
                 as_aux_lemma=>
                  have hHeld:=KW.out wd.drew (Below.refl _ _).drew;refine ah.stN KW 8 ?_;refine ah.tk 0 hHeld ?_;refine ah.tk 1 hHeld ?_;refine ah.tk 3 hHeld ?_;refine ah.tk 4 hHeld ?_;refine ah.tw 2 7 (λK hK=>?_) (λK hK=>?_)
                  ·go_simp
                   refine (awT.out _ (((Below.refl _ _).drew))).mono ?_;rintro e v1 ⟨rfl,ab2⟩;have jk:Bw wd v1:=(((Below.refl _ _).drew)).trans (ab2.mono (show wd.heap.size<=wd.drew.heap.size from zR _));clear ab2;refine di hK (λ_=>KW.out _ jk) ?_;clear hK K;refine ah.tw 5 7 (λK hK=>?_) (λK hK=>?_)
                   ·go_simp
                    refine (aoY.out _ (jk)).mono ?_;rintro e v2 ⟨rfl,ng⟩;have fP:Bw wd v2:=(jk).trans (ng.mono (jk).size);clear ng;refine di hK (λ_=>KW.out _ fP) ?_;clear hK K;refine ah.tw 6 7 (λK hK=>?_) (λK hK=>?_)
                    ·go_simp
                     refine di hK (λ_=>KW.out _ (fP)) ?_;clear hK K;refine ah.on 7 λK hK=>?_;obtain⟨v3,aeH,SM,aeI,iQ⟩:=af v2 (.cells #[.string ⟨#[]⟩,.string ⟨#[]⟩] 100);have iL:Bw wd v3:=(fP).trans (iQ.mono (fP).size);have lC:Hid (wd.heap.size<=v2.heap.size):=zH (fP).size;have jE:=zH SM;clear SM;clear iQ;go_simp;refine di hK (λ_=>KW.out _ iL) ?_;clear hK K;have V0:=jE.out;obtain⟨z0,z1⟩:=dw V0;have f0:=frozen_of_row v3 (v2.heap.size) 0 _ _ V0;have f1:=frozen_of_row v3 (v2.heap.size) 1 _ _ V0;refine ah.on 8 λK hK=>?_;go_simp;refine iW hK ?_;clear hK K;refine ah.dn ?_;go_wp2_with fail;go_meet
                     case rel=>exact⟨_,rfl,lC.out,OG V0 _ _,Ie iL lC.out _ _⟩
                    ·obtain⟨v3,aeH,SM,aeI,iQ⟩:=af v2 (.cells #[.string ⟨#[]⟩,.string ⟨#[]⟩] 100)
                     have iL:Bw wd v3:=(fP).trans (iQ.mono (fP).size);have lC:Hid (wd.heap.size<=v2.heap.size):=zH (fP).size;have jE:=zH SM;clear SM;clear iQ;go_simp;refine di hK (λ_=>KW.out _ iL) ?_;clear hK K;refine ah.on 6 λK hK=>?_;go_simp;refine di hK (λ_=>KW.out _ (iL)) ?_;clear hK K;have V0:=jE.out;obtain⟨z0,z1⟩:=dw V0;have f0:=frozen_of_row v3 (v2.heap.size) 0 _ _ V0;have f1:=frozen_of_row v3 (v2.heap.size) 1 _ _ V0;refine ah.on 8 λK hK=>?_;go_simp;refine iW hK ?_;clear hK K;refine ah.dn ?_;go_wp2_with fail;go_meet
                     case rel=>exact⟨_,rfl,lC.out,OG V0 _ _,Ie iL lC.out _ _⟩
                   ·obtain⟨v2,awu,SM,awv,ng⟩:=af v1 (.cells #[.string ⟨#[]⟩,.string ⟨#[]⟩] 100)
                    have fP:Bw wd v2:=(jk).trans (ng.mono (jk).size);have lC:Hid (wd.heap.size<=v1.heap.size):=zH (jk).size;have jE:=zH SM;clear SM;clear ng;go_simp;refine di hK (λ_=>KW.out _ fP) ?_;clear hK K;refine ah.on 5 λK hK=>?_;go_simp;refine (aoY.out _ (fP)).mono ?_;rintro e v3 ⟨rfl,iQ⟩;have iL:Bw wd v3:=(fP).trans (iQ.mono (fP).size);replace jE:=zH (ae jE.out iQ);clear iQ;refine di hK (λ_=>KW.out _ iL) ?_;clear hK K;refine ah.on 6 λK hK=>?_;go_simp;refine di hK (λ_=>KW.out _ (iL)) ?_;clear hK K;have V0:=jE.out;obtain⟨z0,z1⟩:=dw V0;have f0:=frozen_of_row v3 (v1.heap.size) 0 _ _ V0;have f1:=frozen_of_row v3 (v1.heap.size) 1 _ _ V0;refine ah.on 8 λK hK=>?_;go_simp;refine iW hK ?_;clear hK K;refine ah.dn ?_;go_wp2_with fail;go_meet
                    case rel=>exact⟨_,rfl,lC.out,OG V0 _ _,Ie iL lC.out _ _⟩
                  ·obtain⟨v1,aws,SM,awt,ab2⟩:=af wd.drew (.cells #[.string ⟨#[]⟩,.string ⟨#[]⟩] 100)
                   have jk:Bw wd v1:=(((Below.refl _ _).drew)).trans (ab2.mono (show wd.heap.size<=wd.drew.heap.size from zR _));have lC:Hid (wd.heap.size<=wd.heap.size):=zH (zR _);have jE:Hid (v1.heap[wd.heap.size]?=some (.cells #[.string ⟨#[]⟩,.string ⟨#[]⟩] 100)):=zH SM;clear SM;clear ab2;go_simp;refine di hK (λ_=>KW.out _ jk) ?_;clear hK K;refine ah.on 2 λK hK=>?_;go_simp;refine (awT.out _ (jk)).mono ?_;rintro e v2 ⟨rfl,ng⟩;have fP:Bw wd v2:=(jk).trans (ng.mono (jk).size);replace jE:=zH (ae jE.out ng);clear ng;refine di hK (λ_=>KW.out _ fP) ?_;clear hK K;refine ah.on 5 λK hK=>?_;go_simp;refine (aoY.out _ (fP)).mono ?_;rintro e v3 ⟨rfl,iQ⟩;have iL:Bw wd v3:=(fP).trans (iQ.mono (fP).size);replace jE:=zH (ae jE.out iQ);clear iQ;refine di hK (λ_=>KW.out _ iL) ?_;clear hK K;refine ah.on 6 λK hK=>?_;go_simp;refine di hK (λ_=>KW.out _ (iL)) ?_;clear hK K;have V0:=jE.out;obtain⟨z0,z1⟩:=dw V0;have f0:=frozen_of_row v3 (wd.heap.size) 0 _ _ V0;have f1:=frozen_of_row v3 (wd.heap.size) 1 _ _ V0;refine ah.on 8 λK hK=>?_;go_simp;refine iW hK ?_;clear hK K;refine ah.dn ?_;go_wp2_with fail;go_meet
                   case rel=>exact⟨_,rfl,lC.out,OG V0 _ _,Ie iL lC.out _ _⟩
                case rest=>
                 obtain⟨we,hwe⟩:=zE wc;subst hwe;obtain⟨gp,rfl,hgp,SP,jm⟩:=hcut;have aoZ:Bw w6 we:=awR.out.trans (jm.mono (by have:=awR.out.size;omega));have aDD:w6.heap.size<=we.heap.size:=aoZ.size;have ao0:=aDC.out.below jm;have ao1:=ae HSY.out jm;have y0:=blk4 ao1;obtain⟨z0,z1⟩:=dw SP;obtain⟨kv,ML⟩:=zF (uZ ya yb ts');have pg:=ao0.kp.look Xj.out aoX.out;rw[ML] at pg
                 have hts:nH (xX mA al x.a) (xX mB al x.b) k ts' c=if (decide (0<nb)&&!kv)=true then ts'++[⟨ya,yb,k,c⟩] else ts':=by
                  cases hg:(decide (0<nb)&&!kv) with
                  | true=>
                    rw[if_pos rfl,ah9 (by rw[HYA.out,HYB.out,oG.out,ML];exact hg),HYA.out,HYB.out]
                  | false=>
                    rw[if_neg zP,ale (by rw[HYA.out,HYB.out,oG.out,ML];exact hg)]
                 have jC:(List.range (c+1)).foldl (nH (xX mA al x.a) (xX mB al x.b) k) ts=if (decide (0<nb)&&!kv)=true then ts'++[⟨ya,yb,k,c⟩] else ts':=by rw[aaJ,HF.out,hts]
                 have qV:=zH jC;have Ze:=zH ao0;have ao2:=zH aoZ;have awU:=zH ao1;have HKV:=zH ML;have aDE:=zH (HOA.out.keep jm);have aDF:=zH (WY.out.keep jm);have aI7:=zH SP;clear jC hts ao0 aoZ ao1 ML jm SP;by_cases h0:nb=0
                 ·subst h0
                  have Ef:decide ((0:Int)<((0:Nat):Int))=false:=(by simp);go_wp2_with fail;go_roundw
                  case rel=>exact⟨c+1,ns',ts',by go_num,zO,Ze,aiQ,zH (by rw[qV.out,if_neg zP]),ao2⟩
                  case measure=>simp[intOf];omega
                 ·have Ef:decide ((0:Int)<(nb:Int))=true:=by simp;omega
                  have av2:decide (0<nb)=true:=(by simp;omega);cases kv
                  ·have htw:Ic mA mB K (ts'++[⟨ya,yb,k,c⟩]):=aiQ.out.snoc ⟨awL.out,awM.out,by have:=awN.out;have:=HNA.out;show ya.length<=4297;omega,by have:=awO.out;have:=oG.out;show yb.length<=4297;omega,.inr ⟨k,rfl,by rw[aiR.out];omega⟩,by show c<=K;omega⟩
                   have aDG:=zH htw;obtain⟨L,hM,hL⟩:=Ze.out.kp;have HM:=zH hM;have HL:=zH hL
                   have hgg:gy≠g:=λe=>by
                        have h1:=awU.out;have h2:we.heap[g]?=some (Ag FY bV L):=hM;rw[e,h2] at h1;cases h1
                   have HGG:=zH hgg;clear hM hL htw hgg
                   go_wp2_with (first
                        | (with_reducible refine Lc rfl (.tmp 170) (.tmp 171) (.const (.bool true)) 101 rfl (et:=4) (val:=bV) TN Tryz.underlying101 g L rfl HM.out (fH ya,fH yb) rfl true rfl ?_
                           intro w1 g1 g2 g3 g4;have y0:=blk4 ((g2 gy HGG.out).trans awU.out);obtain⟨w2,mJ,S2,uS,ag⟩:=af w1 (.cells #[.slice Aa na ca,.slice Ab nb cb,.int .i64 k,.int .i64 c] 96);have awV:w6.heap.size<=w2.heap.size:=(by have:=ag.size;rw[g3] at this;omega)
                           have BB:∀q,(Value.slice fB m19 fd).ownBlock=some q->q≠g:=λq hq e=>by
                            obtain⟨cs,hc⟩:=Ze.out.nd.own.bC hq;have h2:we.heap[g]?=some (Ag FY bV L):=HM.out;rw[e,h2] at hc;cases hc
                           have rO:=(Ze.out.nd.own.bu λq hq=>g2 q (BB q hq)).keep ag;obtain⟨v3,w3,bG,Tc,ao3,awW⟩:=anA w2 w6.heap.size ns' _ rO w1.heap.size 1 ⟨⟨Aa,na,ca⟩,⟨Ab,nb,cb⟩,k,c⟩ (λj v hj=>by rw[Nat.zero_add,cell_of_row w2 _ _ _ _ _ S2];simpa[Gt,Hdr.v] using hj) (by rw[awI.out];omega) awV 97
                           have VJ:Bw w6 w3:=by
                            refine (ao2.out.trans ?_).trans ((ag.mono (by rw[g3];omega)).trans (grown_below rO awV ao3));exact Kept.below g4 aDD (λq hq e=>by have:=HGW.out;omega)
                           have awX:=Ze.out.add (t:=⟨ya,yb,k,c⟩) (n:=⟨⟨Aa,na,ca⟩,⟨Ab,nb,cb⟩,k,c⟩) Xj.out aoX.out HM.out HL.out g1 g2 ag aDE.out aDF.out rfl rfl Tc ao3 awW;obtain⟨fA3,fc3,ev3⟩:=Tc.form;rw[List.length_append,z16,awI.out] at ev3;subst ev3;have qB:=zH bG;have aDH:=zH awX;have aDI:=zH VJ
                           clear bG awX VJ Tc ao3 awW rO BB g1 g2 g3 g4 S2 ag)
                        | (at_builtin;refine wO rfl (.tmp 172) (.tmp 174) 97 rfl (v1:=.slice fB m19 fd) (v2:=.slice (some ⟨w1.heap.size,0,none⟩) 1 1) rfl rfl qB.out ?_))
                   go_roundw
                   case rel=>exact⟨c+1,ns'++[⟨⟨Aa,na,ca⟩,⟨Ab,nb,cb⟩,k,c⟩],ts'++[⟨ya,yb,k,c⟩],by go_num,zO,aDH,aDG,zH (by rw[qV.out,av2];rfl),aDI⟩
                   case measure=>simp[intOf];omega
                  ·go_wp2_with fail
                   go_roundw
                   case rel=>exact⟨c+1,ns',ts',by go_num,zO,Ze,aiQ,zH (by rw[qV.out,if_neg zP]),ao2⟩
                   case measure=>simp[intOf];omega
              ·obtain rfl:K=c:=by omega
               have sZ:decide (K<K)=false:=(by simp);have jU:=aDz.out;rw[HF.out,aiR.out] at jU;by_cases xQ:20000<m19
               ·have Ef:decide ((20000:Int)<(m19:Int))=true:=by simp;omega
                rw[if_pos xQ] at jU;subst jU;go_wp2_with fail;refine bodyPost_ret (v:=.tuple #[.bool false,.slice none 0 0,.int .i64 3]) (by simp[results,Tryz.results17,go_sem]) rfl ?_;exact⟨_,rfl,ax.nil _ _ _ _ _,GG.out.trans (OW.out.mono GG.out.size)⟩
               ·have Ef:decide ((20000:Int)<(m19:Int))=false:=by simp;omega
                rw[if_neg xQ] at jU;have aDJ:=zH jU;clear jU;go_wp2_with fail;go_roundw
                case rel=>exact⟨k+1,ns',ts',by go_num,zH Zd.out.nd,zH Zd.out.kp,aiQ,by rw[aiR.out];omega,by rw[aiR.out];omega,zH (by rw[show 20001 - (k+1)=20000 - k by omega];exact aDJ.out),OW⟩
                case measure=>simp[intOf];omega
         ·rw[bZ] at Zc
          clear bZ
          as_aux_lemma=>
             have jU:=Zc.out;rw[if_pos rfl] at jU;have VR:=zH jU;clear jU Zc;obtain⟨bw,aH⟩:=zF wb.heap.size;go_wp2_with fail
             go_loopw [23,24] (λs23 s24 W=>∃(i fu:Nat) (wd:List Nm),s24= .int .i64 i/\i<n19/\i<fu/\wd.length+i<=k/\Hid (yG ts (iJ al) (k+1) k=yG ts (iJ al) fu i++wd.reverse)/\Hid (ax W wb.heap.size 23 2 dK wd s23)/\Hid (Bw wb W)) (λ_ s24 _=>(intOf s24).toNat)
             case atStart=>exact⟨k,k+1,[],rfl,aN,zO,zP,zH zP,zH (ax.nil _ _ _ _ _),zH (Below.refl _ _)⟩
             case round=>
              obtain⟨i,fu,wd,rfl,oO,hfu,hwl,HWT,Px,nG⟩:=hrel;obtain⟨t,ht⟩:∃t,ts[i]?=some t:=⟨_,List.getElem?_eq_getElem (by have:=HTN.out;omega)⟩;have htl:=(HTW.out i t ht).letter;have aiW:Bw w6 wr:=aoN.out.trans (nG.out.mono aoM);have awZ:wb.heap.size<=wr.heap.size:=nG.out.size;obtain⟨b',off',d',B1,e1',B2,e2',ev,p0,p1,p2,p3,dO,-,-⟩:=(aoK.out.below nG.out).nd.read ht;rw[HTN.out] at ev dO;cases ev;clear p0 p1
              rcases (HTW.out i t ht).from_ with hm | ⟨f,hf,hfi⟩
              ·rw[hm] at p2
               have sZ:decide ((0:Int)<=(-1:Int))=false:=(by decide);have hw:yG ts (iJ al) (k+1) k=wd.reverse:=(by rw[HWT.out,alf ht zO,List.nil_append]);have HW2:=zH hw;have OW:=zH aiW;clear hw aiW
               go_wp2_with (go_at_call 61;refine (aft wd _ _ wb.heap.size Px.out zO).mono ?_;rintro e KJ ⟨rfl,aDK,aDL⟩)
               have Gm:Below wb.heap.size wr KJ:=grown_below Px.out awZ aDL;refine bodyPost_ret (v:=.tuple #[.bool false,u23,.int .i64 0]) (by simp[results,Tryz.results17,go_sem]) rfl ?_;refine⟨_,by rw[<-VR.out],?_,?_⟩
               ·rw[<-VR.out,HW2.out]
                exact aDK.low (by have:=GG.out.size;omega)
               ·exact GG.out.trans ((OW.out.trans (Gm.mono aoM)).mono GG.out.size)
              ·rw[hf] at p2
               have sZ:decide ((0:Int)<=(f:Int))=true:=(by simp);obtain⟨fu,rfl⟩:∃m,fu=m+1:=⟨fu - 1,zO⟩;have hw:yG ts (iJ al) (k+1) k=yG ts (iJ al) fu f++(wd++[iJ al t.letter]).reverse:=(by rw[HWT.out,alg ht hf,List.append_assoc,List.reverse_append];rfl);have HW2:=zH hw;have OW:=zH aiW;clear hw aiW
               go_wp2_with (first
                | (go_at_call 60;refine (SI al t.letter ba nA nn nc sA sn sc wr (aoH.out wr OW.out) (by have:=HKB.out;omega)).mono ?_
                   rintro e KJ ⟨rfl,Gm⟩;obtain⟨wB,aI8,S13,aCW,jX⟩:=af KJ (.cells #[.string (iJ al t.letter).1,.string (iJ al t.letter).2] 23);have BD:=Gm.seq jX;have Y4:=Px.out.keep BD;have aw0:wb.heap.size<=wB.heap.size:=(by have:=BD.size;omega);obtain⟨v14,w14,bG,aw5,aqV,-⟩:=aaN wB wb.heap.size wd u23 Y4 KJ.heap.size 1 (iJ al t.letter) (λj v hj=>by rw[Nat.zero_add,cell_of_row wB _ _ _ _ _ S13];simpa[dK] using hj) zO aw0 37;have mr:Bw wb w14:=(nG.out.trans (BD.mono awZ)).trans (grown_below Y4 aw0 aqV);obtain⟨b',off',d',B1,e1',B2,e2',ev,p0,p1,p2,p3,dO,-,-⟩:=(aoK.out.below mr).nd.read ht;rw[HTN.out] at ev dO;cases ev;rw[hf] at p2;have qB:=zH bG;have aDM:=zH aw5;have FO:=zH mr
                   clear bG aw5 mr aqV Y4 BD Gm jX S13 p0 p1)
                | (at_builtin;refine wO rfl (.tmp 119) (.tmp 127) 37 rfl (v1:=u23) (v2:=.slice (some ⟨KJ.heap.size,0,none⟩) 1 1) rfl rfl qB.out ?_))
               go_roundw
               case rel=>exact⟨f,fu,wd++[iJ al t.letter],rfl,zO,zO,by simp;omega,HW2,aDM,FO⟩
               case measure=>simp[intOf];omega
       ·obtain rfl:k=n19:=by omega
        have jc:decide (k<k)=false:=(by simp);have jU:=HIL.out;rw[aib (by rw[HTN.out];exact zR _)] at jU;subst jU;go_wp2_with fail;refine bodyPost_ret (v:=.tuple #[.bool true,.slice none 0 0,.int .i64 0]) (by simp[results,Tryz.results17,go_sem]) rfl ?_;exact⟨_,rfl,ax.nil _ _ _ _ _,GG.out.trans (aeJ.out.mono (by have:=GG.out.size;omega))⟩
end Go.Proofs.YtgmnnegfndpakaaGreatDoor
