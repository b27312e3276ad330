import Derived.Test.YtgmnnegfndpakaaGreatDoorG05
import Derived.Handy
set_option maxHeartbeats 20000000
set_option maxRecDepth 100000
namespace Go.Proofs.YtgmnnegfndpakaaGreatDoor
open Go.RowKit
def xB:ByteArray:=⟨#[120]⟩
def uB:ByteArray:=⟨#[117]⟩
def BH(taken:Nat->Bool)(I:Nat):Prop:=taken I=false/\∀j,j<I->taken j=true
def IA(st l:List Nm)(a:ByteArray)(i:Nat):Bool:=ru st a (dL xB i)||ru l a (dL xB i)
def abJ:List ByteArray->ByteArray->Bool
 | [],_=>false
 | x::l,s=>eqS x s||abJ l s
theorem abK(l:List ByteArray)(s:ByteArray):abJ l s=true↔s∈l:=by
 induction l with
 | nil=>simp[abJ]
 | cons x l ih=>
   simp only[abJ,Bool.or_eq_true,iV,ih,z15];exact⟨λh=>h.imp (λe=>e.symm) id,λh=>h.imp (λe=>e.symm) id⟩
def Fe(st:List ByteArray)(i:Nat):Bool:=abJ st (dL uB i)

theorem OZ{n:Nat}(h:0<n):pG n≠[]:=by
 rw[Ho h];simp
theorem ajh{a b:Nat}(ha:a<10)(hb:b<10)(h:UInt8.ofNat (48+a)=UInt8.ofNat (48+b)):a=b:=by
 have h1:=congrArg UInt8.toNat h;simp only[UInt8.toNat_ofNat'] at h1;omega
theorem aji:∀(n m:Nat),pG n=pG m->n=m:=by
 intro n
 induction n using Nat.strongRecOn with
 | _ n ih=>
   intro m h
   rcases Nat.eq_zero_or_pos n with hn | hn
   ·subst hn
    rcases Nat.eq_zero_or_pos m with hm | hm
    ·exact hm.symm
    ·exact absurd (h.symm.trans (by simp[pG])) (OZ hm)
   ·rcases Nat.eq_zero_or_pos m with hm | hm
    ·subst hm
     exact absurd (h.trans (by simp[pG])) (OZ hn)
    ·rw[Ho hn,Ho hm] at h
     obtain⟨h1,h2⟩:=List.append_inj' h rfl;have h3:=ih (n / 10) zO (m / 10) h1;have h4:=ajh (Nat.mod_lt _ zO) (Nat.mod_lt _ zO) (by simpa using h2);omega
theorem Nu{a:ByteArray}{n m:Nat}(h:dL a n=dL a m):n=m:=by
 unfold dL at h;have h1:=congrArg (λx=>x.data.toList) h;simp only[ByteArray.data_append,Array.toList_append] at h1;exact aji _ _ (List.append_cancel_left h1)
theorem wZ{α:Type}[DecidableEq α]:∀(l1 l2:List α),l1.Nodup->(∀x∈l1,x∈l2)->l1.length<=l2.length
 | [],l2,_,_=>by simp
 | x::l1,l2,hn,hs=>by
   have hx:x∈l2:=hs x zP
   have h1:=wZ l1 (l2.erase x) (List.nodup_cons.1 hn).2 (λy hy=>by
    have dD:y≠x:=by rintro rfl;exact(List.nodup_cons.1 hn).1 hy
    exact(List.mem_erase_of_ne dD).2 (hs y (by simp[hy])))
   rw[List.length_erase_of_mem hx] at h1;have:0<l2.length:=List.length_pos_of_mem hx;simp;omega
theorem EU{α:Type}[DecidableEq α](f:Nat->α)(hf:∀i j,f i=f j->i=j)(l:List α):∃i,i<=l.length/\f i ∉ l:=by
 apply Classical.byContradiction;intro h;have h2:∀i,i<=l.length->f i∈l:=λi hi=>Classical.byContradiction λhn=>h ⟨i,hi,hn⟩
 have h3:=wZ ((List.range (l.length+1)).map f) l (by
  rw[List.nodup_iff_pairwise_ne,List.pairwise_map]
  exact(List.nodup_iff_pairwise_ne.1 List.nodup_range).imp λdD he=>dD (hf _ _ he)) (by
  intro x hx;obtain⟨i,hi,rfl⟩:=List.mem_map.1 hx
  exact h2 i (by have:=List.mem_range.1 hi;omega))
 simp at h3;omega
noncomputable def BI(taken:Nat->Bool):Nat:=Classical.epsilon (BH taken)
theorem Qv{taken:Nat->Bool}{N:Nat}(h:∃i,i<=N/\taken i=false):BH taken (BI taken)/\BI taken<=N:=by
 have hex:∃I,BH taken I:=by
  obtain⟨i,hi⟩:∃i,taken i=false:=let ⟨i,_,hi⟩:=h;⟨i,hi⟩;clear h
  induction i using Nat.strongRecOn with
  | _ i ih=>
    by_cases hj:∃j,j<i/\taken j=false
    ·obtain⟨j,h1,h2⟩:=hj
     exact ih j h1 h2
    ·refine⟨i,hi,λj GL=>?_⟩
     cases ht:taken j with
     | true=>rfl
     | false=>exact absurd ⟨j,GL,ht⟩ hj
 have h1:BH taken (BI taken):=Classical.epsilon_spec hex;refine⟨h1,?_⟩;obtain⟨i,hi,ht⟩:=h
 rcases Nat.lt_or_ge i (BI taken) with h2 | h2
 ·rw[h1.2 i h2] at ht;cases ht
 ·omega
theorem Wl(st l:List Nm)(a:ByteArray)(i:Nat):IA st l a i=true↔(a,dL xB i)∈st++l:=by
 unfold IA;rw[Bool.or_eq_true,Nr,Nr,z12]
theorem axG(st l:List Nm)(a:ByteArray):∃i,i<=(st++l).length/\IA st l a i=false:=by
 obtain⟨i,h1,h2⟩:=EU (λi=>(a,dL xB i)) (λi j h=>Nu (Prod.mk.inj h).2) (st++l);refine⟨i,h1,?_⟩
 cases h:IA st l a i with
 | false=>rfl
 | true=>exact absurd ((Wl _ _ _ _).1 h) h2
theorem axH(st:List ByteArray):∃i,i<=st.length/\Fe st i=false:=by
 obtain⟨i,h1,h2⟩:=EU (λi=>dL uB i) (λi j h=>Nu h) st;refine⟨i,h1,?_⟩
 cases h:Fe st i with
 | false=>rfl
 | true=>exact absurd ((abK _ _).1 h) h2
noncomputable def Wn(st l:List Nm)(a:ByteArray):Nm:=(a,dL xB (BI (IA st l a)))
noncomputable def amh(st:List ByteArray):ByteArray:=dL uB (BI (Fe st))
noncomputable def abj(m:wY)(l:List Nm):List Nm:=m.1++m.2.map (Wn m.1 l)++[Wn m.1 l (amh m.2)]

def arU(Zk:Int)(x y:Bool):Bool:=if Zk=1 then x||y else if Zk=2 then x&&y else if Zk=3 then x&&!y else x
theorem arV{v:Bool}(a b:ByteArray)(c:aT)(cs:List Value)(w:World)(F:Nat->Prop)(h:dA w F c cs)(hv:vk c a b=v):
 Rt 157 #[.agg cs.toArray,.agg #[.string a,.string b]] w (.bool v):=by
 subst hv;exact arS a b c cs w F h
theorem rD(w:World)(o o' o'':Obj):∃w1,((w.alloc o).alloc o').alloc o''=w1/\w1.heap[w.heap.size]?=some o/\w1.heap[w.heap.size+1]?=some o'/\w1.heap[w.heap.size+1+1]?=some o''/\w.heap.size+1+1<w1.heap.size/\Bw w w1:=by
 have e1:(w.alloc o).heap.size=w.heap.size+1:=by simp
 have e2:((w.alloc o).alloc o').heap.size=w.heap.size+1+1:=by simp
 refine⟨_,rfl,fK (fK (heap_alloc_new w o)),?_,?_,zP,(((Below.refl _ _).alloc (zR _) _).alloc zP _).alloc (by simp;omega) _⟩
 ·rw[<-e1];exact fK (heap_alloc_new _ _)
 ·rw[<-e2];exact heap_alloc_new _ _

def jF(c:aT):Int:=if 100<ni 10 c then 3 else if rU c then 0 else 2
theorem ajm(c:aT)(cs:List Value)(w:World)(F:Nat->Prop)(h:dA w F c cs):
 Rt 139 #[.agg cs.toArray,.int .i64 10] w (.int .i64 (ni 10 c)):=count_any 10 c cs w F h zO
theorem Qz(c:aT)(cs:List Value)(w:World)(F:Nat->Prop)(hr:dA w F c cs):
 Rt 71 #[.agg cs.toArray] w (.int .i64 (jF c)):=by
 obtain⟨N,hN⟩:=zF (ni 10 c);obtain⟨v,hv⟩:=zF (rU c);have HR:Hid (jF c=if 100<N then 3 else if v then 0 else 2):=zH (by unfold jF;rw[hN,hv]);have c53:=λw F h=>ajm c cs w F h;have c54:=λw F h=>ag8 c cs w F h;rw[hN] at c53;rw[hv] at c54;have C53:=zH c53;have C54:=zH c54;clear c53 c54 hN hv;obtain⟨k,ns,nl,s,ex,ar⟩:=c;obtain⟨A,n,c,A',n',c',rfl,-,-,-,-⟩:=hr.here.form;obtain⟨w1,bI,hblk,bY,ai⟩:=af w (.cells #[.int .i64 k,.string ns,.string nl,.string s,.slice A n c,.slice A' n' c'] 26);have O1:=zH (hr.here.below ai);have q0:=gG hblk;have HB:=zH hblk;clear hblk hr;go_enter Tryz.func71,Tryz.ntmps71;go_wp2_with fail;refine (C53.out w1 _ O1.out).mono ?_;rintro e w2 ⟨rfl,ag⟩;clear q0;have q0:=gG (ae HB.out ag);by_cases h1:100<N
 ·have hd:decide (100<(N:Int))=true:=by simp;omega
  go_wp2_with fail;go_ret;exact⟨iU (by rw[HR.out,if_pos h1]),ai.seq ag⟩
 ·have hd:decide (100<(N:Int))=false:=by simp;omega
  go_wp2_with fail;refine (C54.out w2 _ (O1.out.below (ag.mono zO))).mono ?_;rintro e w3 ⟨rfl,az⟩;cases v
  all_goals
   go_wp2_with fail;go_ret;exact⟨iU (by rw[HR.out,if_neg h1];rfl),ai.seq (ag.seq az)⟩
theorem dA.cells{w:World}{F:Nat->Prop}{c:aT}{cs:List Value}(h:dA w F c cs):
 ∃k ns nl s A n c0 A' n' LW,cs=[.int .i64 k,.string ns,.string nl,.string s,.slice A n c0,.slice A' n' LW]:=by
 obtain⟨k,ns,nl,s,ex,ar⟩:=c;obtain⟨A,n,c,A',n',c',rfl,_⟩:=h.form;exact⟨_,_,_,_,_,_,_,_,_,_,rfl⟩
theorem abl{W w1:World}(hb:Bw W w1):(∀b o,b<W.heap.size->w1.cell? ⟨b,o,none⟩=W.cell? ⟨b,o,none⟩)/\(∀b o,b<W.heap.size->w1.frozen? ⟨b,o,none⟩=W.frozen? ⟨b,o,none⟩):=
 ⟨λb o h=>hb.cell (p:=⟨b,o,none⟩) h,λb o h=>hb.frozen (p:=⟨b,o,none⟩) h⟩
theorem IC{v:Int}(c:aT)(cs:List Value)(w:World)(F:Nat->Prop)(hr:dA w F c cs)(hv:jF c=v):
 Rt 71 #[.agg cs.toArray] w (.int .i64 v):=by subst hv;exact Qz c cs w F hr
theorem Fj{v:Int}(c:aT)(cs:List Value)(w:World)(F:Nat->Prop)(hr:dA w F c cs)(hv:xO c=v):
 Rt 101 #[.agg cs.toArray] w (.int .i64 v):=by subst hv;exact check_any c cs w F hr
theorem Yo{v:Bool}(a b:ByteArray)(c:aT)(cs:List Value)(w:World)(F:Nat->Prop)(h:dA w F c cs)(hv:pK c a b=v):
 Rt 191 #[.agg cs.toArray,.agg #[.string a,.string b]] w (.bool v):=by
 subst hv;exact arl a b c cs w F h
theorem ajn{v:Bool}(a b:ByteArray)(w:World)(hv:jJ a b=v):
 Rt 161 #[.agg #[.string a,.string b]] w (.bool v):=by subst hv;exact Zm a b w
theorem aha{v:Bool}(a b:ByteArray)(w:World)(hv:jJ a b=v):
 Rt 156 #[.agg #[.string a,.string b]] w (.bool v):=by subst hv;exact Zl a b w
def xg(e:Int)(v i:Bool):Bool×Int:=if e=0 then (if v then (i,0) else (false,2)) else (false,e)
theorem axK(a b:ByteArray)(c:aT)(cs:List Value)(w:World)(F:Nat->Prop)(hr:dA w F c cs):
 Rt 94 #[.agg cs.toArray,.agg #[.string a,.string b]] w (.tuple #[.bool (xg (jF c) (jJ a b) (vk c a b)).1,.int .i64 (xg (jF c) (jJ a b) (vk c a b)).2]):=by
 obtain⟨ec,yJ⟩:=zF (jF c);obtain⟨vv,DV⟩:=zF (jJ a b);obtain⟨iv,CJ⟩:=zF (vk c a b);rw[yJ,DV,CJ];have HEC:=zH yJ;have QA:=zH DV;have HIV:=zH CJ;clear yJ DV CJ;have Aq:=hr.here;obtain⟨k,ns,nl,s,A,n,c0,A',n',LW,rfl⟩:=hr.cells;obtain⟨w1,bI,S1,S2,bY,ai⟩:=ed w (.cells #[.int .i64 k,.string ns,.string nl,.string s,.slice A n c0,.slice A' n' LW] 26) (.cells #[.string a,.string b] 23);have HR:=zH (Aq.below ai);have p0:=gG S1;have r0:=dw S2
 have ar6:w.heap.size<w1.heap.size:=by omega
 clear S1 S2 hr Aq;by_cases he:ec=0
 ·subst he
  have Ar:((0:Int) !=0)=false:=rfl;cases vv
  all_goals
   go_enter Tryz.func94,Tryz.ntmps94;go_wp2_with fail;refine (IC c _ w1 _ HR.out HEC.out).mono ?_;rintro e w2 ⟨rfl,ag⟩;obtain⟨Wu,hf2⟩:=abl ag;go_wp2_with fail;refine (aha a b w2 QA.out).mono ?_;rintro e w3 ⟨rfl,az⟩;obtain⟨hc3,hf3⟩:=abl az;have oW:=ag.size;have ny:w.heap.size<w2.heap.size:=(by omega);have hz4:w.heap.size+1<w2.heap.size:=(by omega);go_wp2_with fail
  ·go_ret2
   exact⟨rfl,ai.seq (ag.seq az)⟩
  ·refine (arV a b c _ w3 _ ((HR.out.below (ag.mono zO)).below (az.mono zO)) HIV.out).mono ?_
   rintro e w4 ⟨rfl,aX⟩;go_wp2_with fail
   go_ret2
   exact⟨rfl,ai.seq (ag.seq (az.seq aX))⟩
 ·have Ar:(ec !=0)=true:=by simpa using he
  have HE:Hid (xg ec vv iv=(false,ec)):=zH (by unfold xg;rw[if_neg he]);go_enter Tryz.func94,Tryz.ntmps94;go_wp2_with fail;refine (IC c _ w1 _ HR.out HEC.out).mono ?_;rintro e w2 ⟨rfl,ag⟩;clear he;go_wp2_with fail
  go_ret2
  exact⟨by rw[HE.out];rfl,ai.seq ag⟩
theorem arn(a b:ByteArray)(c:aT)(cs:List Value)(w:World)(F:Nat->Prop)(hr:dA w F c cs):
 Rt 155 #[.agg cs.toArray,.agg #[.string a,.string b]] w (.tuple #[.bool (xg (xO c) (jJ a b) (pK c a b)).1,.int .i64 (xg (xO c) (jJ a b) (pK c a b)).2]):=by
 obtain⟨ec,yJ⟩:=zF (xO c);obtain⟨vv,DV⟩:=zF (jJ a b);obtain⟨iv,CJ⟩:=zF (pK c a b);rw[yJ,DV,CJ];have HEC:=zH yJ;have QA:=zH DV;have HIV:=zH CJ;clear yJ DV CJ;have Aq:=hr.here;obtain⟨k,ns,nl,s,A,n,c0,A',n',LW,rfl⟩:=hr.cells;obtain⟨w1,bI,S1,S2,bY,ai⟩:=ed w (.cells #[.int .i64 k,.string ns,.string nl,.string s,.slice A n c0,.slice A' n' LW] 26) (.cells #[.string a,.string b] 23);have HR:=zH (Aq.below ai);have p0:=gG S1;have r0:=dw S2
 have ar6:w.heap.size<w1.heap.size:=by omega
 clear S1 S2 hr Aq;by_cases he:ec=0
 ·subst he
  have Ar:((0:Int) !=0)=false:=rfl;cases vv
  all_goals
   go_enter Tryz.func155,Tryz.ntmps155;go_wp2_with fail;refine (Fj c _ w1 _ HR.out HEC.out).mono ?_;rintro e w2 ⟨rfl,ag⟩;obtain⟨Wu,hf2⟩:=abl ag;go_wp2_with fail;refine (ajn a b w2 QA.out).mono ?_;rintro e w3 ⟨rfl,az⟩;obtain⟨hc3,hf3⟩:=abl az;have oW:=ag.size;have ny:w.heap.size<w2.heap.size:=(by omega);have hz4:w.heap.size+1<w2.heap.size:=(by omega);go_wp2_with fail
  ·go_ret2
   exact⟨rfl,ai.seq (ag.seq az)⟩
  ·refine (Yo a b c _ w3 _ ((HR.out.below (ag.mono zO)).below (az.mono zO)) HIV.out).mono ?_
   rintro e w4 ⟨rfl,aX⟩;go_wp2_with fail
   go_ret2
   exact⟨rfl,ai.seq (ag.seq (az.seq aX))⟩
 ·have Ar:(ec !=0)=true:=by simpa using he
  have HE:Hid (xg ec vv iv=(false,ec)):=zH (by unfold xg;rw[if_neg he]);go_enter Tryz.func155,Tryz.ntmps155;go_wp2_with fail;refine (Fj c _ w1 _ HR.out HEC.out).mono ?_;rintro e w2 ⟨rfl,ag⟩;clear he;go_wp2_with fail
  go_ret2
  exact⟨by rw[HE.out];rfl,ai.seq ag⟩
inductive D where
 | val (v:Value)
 | sl (sz:Nat) (es:List (List D))
mutual
def gI(w:World)(F:Nat->Prop):D->Value->Prop
 | .val v,u=>u=v
 | .sl sz es,u=>∃A c,u= .slice A es.length c/\es.length<6000000000000/\(0<es.length->∃b off,A=some ⟨b,off,none⟩/\F b/\bK w F sz es b off)
def bK(w:World)(F:Nat->Prop)(sz:Nat):List (List D)->Nat->Nat->Prop
 | [],_,_=>True
 | e::es,b,off=>(∃cs,cu w b off cs/\au w F e cs)/\bK w F sz es b (off+sz)
def au(w:World)(F:Nat->Prop):List D->List Value->Prop
 | [],cs=>cs=[]
 | d::ds,cs=>∃v r,cs=v::r/\gI w F d v/\au w F ds r
end
theorem gI.rq{w:World}{F:Nat->Prop}{v u:Value}:gI w F (.val v) u↔u=v:=by rw[gI]
theorem gI.LX{w:World}{F:Nat->Prop}{sz:Nat}{es:List (List D)}{u:Value}:gI w F (.sl sz es) u↔∃A c,u= .slice A es.length c/\es.length<6000000000000/\(0<es.length->∃b off,A=some ⟨b,off,none⟩/\F b/\bK w F sz es b off):=by rw[gI]
theorem au.oL{w:World}{F:Nat->Prop}{cs:List Value}:au w F [] cs↔cs=[]:=by rw[au]
theorem au.gu{w:World}{F:Nat->Prop}{d:D}{ds:List D}{cs:List Value}:au w F (d::ds) cs↔∃v r,cs=v::r/\gI w F d v/\au w F ds r:=by rw[au]
theorem bK.gu{w:World}{F:Nat->Prop}{sz:Nat}{e:List D}{es:List (List D)}{b off:Nat}:bK w F sz (e::es) b off↔(∃cs,cu w b off cs/\au w F e cs)/\bK w F sz es b (off+sz):=by rw[bK]
theorem au.len{w:World}{F:Nat->Prop}:∀{ds:List D} {cs:List Value},au w F ds cs->cs.length=ds.length
 | [],cs,h=>by rw[au.oL] at h;rw[h];rfl
 | d::ds,cs,h=>by
   rw[au.gu] at h;obtain⟨v,r,rfl,_,hr⟩:=h;rw[z9,z9,hr.len]
mutual
theorem gI.keep{w w':World}{F F':Nat->Prop}(hF:∀b,F b->F' b/\w'.heap[b]?=w.heap[b]?):∀(d:D) (v:Value),gI w F d v->gI w' F' d v
 | .val v,u,h=>by rw[gI] at h ⊢;exact h
 | .sl sz es,u,h=>by
   rw[gI] at h ⊢;obtain⟨A,c,e,hl,h1⟩:=h;refine⟨A,c,e,hl,λhp=>?_⟩;obtain⟨b,off,ha,hb,hr⟩:=h1 hp;exact⟨b,off,ha,(hF b hb).1,bK.keep hF sz es b off (hF b hb).2 hr⟩
theorem bK.keep{w w':World}{F F':Nat->Prop}(hF:∀b,F b->F' b/\w'.heap[b]?=w.heap[b]?)(sz:Nat):∀(es:List (List D)) (b off:Nat),w'.heap[b]?=w.heap[b]?->bK w F sz es b off->bK w' F' sz es b off
 | [],_,_,_,_=>by rw[bK];trivial
 | e::es,b,off,hb,h=>by
   rw[bK] at h ⊢;obtain⟨⟨cs,hc,hr⟩,hl⟩:=h;exact⟨⟨cs,hc.keep hb,au.keep hF e cs hr⟩,bK.keep hF sz es b (off+sz) hb hl⟩
theorem au.keep{w w':World}{F F':Nat->Prop}(hF:∀b,F b->F' b/\w'.heap[b]?=w.heap[b]?):∀(ds:List D) (cs:List Value),au w F ds cs->au w' F' ds cs
 | [],_,h=>by rw[au] at h ⊢;exact h
 | d::ds,cs,h=>by
   rw[au] at h ⊢;obtain⟨v,r,e,h1,h2⟩:=h;exact⟨v,r,e,gI.keep hF d v h1,au.keep hF ds r h2⟩
end
theorem bK.get{w:World}{F:Nat->Prop}{sz:Nat}:∀{es:List (List D)} {b off:Nat} (_:bK w F sz es b off) (i:Nat) (e:List D),es[i]?=some e->∃cs,cu w b (off+i*sz) cs/\au w F e cs
 | [],b,off,h,i,c,hi=>by simp at hi
 | c::l,b,off,h,0,c',hi=>by
   rw[bK] at h;obtain rfl:c=c':=(by simpa using hi);simpa using h.1
 | c::l,b,off,h,i+1,c',hi=>by
   rw[bK] at h;have:=h.2.get i c' (by simpa using hi);rwa [show off+sz+i*sz=off+(i+1)*sz by rw[Nat.add_mul];omega] at this
theorem bK.Wv{w:World}{F:Nat->Prop}{sz:Nat}:∀{es:List (List D)} {b off:Nat},(∀(i:Nat) (e:List D),es[i]?=some e->∃cs,cu w b (off+i*sz) cs/\au w F e cs)->bK w F sz es b off
 | [],b,off,h=>by rw[bK];trivial
 | c::l,b,off,h=>by
   rw[bK];refine⟨by simpa using h 0 c rfl,bK.Wv λi e he=>?_⟩;have:=h (i+1) e (by simpa using he);rwa [show off+(i+1)*sz=off+sz+i*sz by rw[Nat.add_mul];omega] at this
def wC:aT->List D
 | .mk k ns nl s ex ar=>[.val (.int .i64 k),.val (.string ns),.val (.string nl),.val (.string s),.sl 6 (abO ex),.sl 6 (abO ar)]
where abO:List aT->List (List D)
 | []=>[]
 | c::l=>wC c::abO l
theorem Ny(l:List aT):wC.abO l=l.map wC:=by
 induction l with
 | nil=>rfl
 | cons c l ih=>rw[wC.abO,ih,List.map_cons]
theorem Es(k:Int)(ns nl s:ByteArray)(ex ar:List aT):wC (.mk k ns nl s ex ar)=[.val (.int .i64 k),.val (.string ns),.val (.string nl),.val (.string s),.sl 6 (ex.map wC),.sl 6 (ar.map wC)]:=by
 rw[wC,Ny,Ny]
theorem abP(c:aT):(wC c).length=6:=by cases c;rw[Es];rfl
mutual
theorem Vf(w:World)(F:Nat->Prop):∀(c:aT) (cs:List Value),dA w F c cs↔au w F (wC c) cs
 | .mk k ns nl s ex ar,cs=>by
   rw[dA,Es];simp only[au.gu,au.oL,gI.rq,gI.LX,z8];constructor
   ·rintro⟨A,c,A',c',rfl,h1,h2,h3,h4⟩
    refine⟨_,_,rfl,rfl,_,_,rfl,rfl,_,_,rfl,rfl,_,_,rfl,rfl,_,_,rfl,⟨A,c,rfl,h1,λhp=>?_⟩,_,_,rfl,⟨A',c',rfl,h2,λhp=>?_⟩,rfl⟩
    ·obtain⟨b,off,e,hb,hr⟩:=h3 hp
     exact⟨b,off,e,hb,(IE w F ex b off).1 hr⟩
    ·obtain⟨b,off,e,hb,hr⟩:=h4 hp
     exact⟨b,off,e,hb,(IE w F ar b off).1 hr⟩
   ·rintro⟨_,_,rfl,rfl,_,_,rfl,rfl,_,_,rfl,rfl,_,_,rfl,rfl,_,_,rfl,⟨A,c,rfl,h1,h3⟩,_,_,rfl,⟨A',c',rfl,h2,h4⟩,rfl⟩
    refine⟨A,c,A',c',rfl,h1,h2,λhp=>?_,λhp=>?_⟩
    ·obtain⟨b,off,e,hb,hr⟩:=h3 hp
     exact⟨b,off,e,hb,(IE w F ex b off).2 hr⟩
    ·obtain⟨b,off,e,hb,hr⟩:=h4 hp
     exact⟨b,off,e,hb,(IE w F ar b off).2 hr⟩
theorem IE(w:World)(F:Nat->Prop):∀(l:List aT) (b off:Nat),jq w F l b off↔bK w F 6 (l.map wC) b off
 | [],_,_=>by rw[jq,List.map_nil,bK]
 | c::l,b,off=>by
   rw[jq,List.map_cons,bK,IE w F l b (off+6)];constructor
   ·rintro⟨⟨cs,h1,h2⟩,h3⟩;exact⟨⟨cs,h1,(Vf w F c cs).1 h2⟩,h3⟩
   ·rintro⟨⟨cs,h1,h2⟩,h3⟩;exact⟨⟨cs,h1,(Vf w F c cs).2 h2⟩,h3⟩
end
abbrev rE (sz:Nat):={ l:List Value // l.length=sz/\∀u∈l,u.oneCell'=true }
def cN{sz:Nat}(x:rE sz):List Value:=x.1
theorem abQ{sz:Nat}(x:rE sz):(cN x).length=sz:=x.2.1
theorem ajp{sz:Nat}(l:List (rE sz)):∀u∈l.flatMap cN,u.oneCell'=true:=by
 intro u hu;obtain⟨x,_,hx⟩:=List.mem_flatMap.1 hu;exact x.2.2 u hx
def abR(w:World)(base:Nat)(e:TypeId)(sz:Nat)(es:List (List D))(v:Value):Prop:=
 ∃xs:List (rE sz),ax w base e sz cN xs v/\xs.length=es.length/\∀(i:Nat) (d:List D) (x:rE sz),es[i]?=some d->xs[i]?=some x->au w (λb=>base<=b/\b<w.heap.size/\some b≠v.ownBlock) d x.1
theorem abR.nil(w:World)(base:Nat)(e:TypeId)(sz:Nat):abR w base e sz [] (.slice none 0 0):=⟨[],ax.nil _ _ _ _ _,rfl,λi d x h=>by simp at h⟩
theorem abR.keep{w w':World}{base:Nat}{e:TypeId}{sz:Nat}{es:List (List D)}{v:Value}(h:abR w base e sz es v)(hb:Bw w w'):abR w' base e sz es v:=by
 obtain⟨xs,h1,h2,h3⟩:=h;exact⟨xs,h1.keep hb,h2,λi d x hd hx=>(h3 i d x hd hx).keep (λb hF=>⟨⟨hF.1,Nat.lt_of_lt_of_le hF.2.1 hb.size,hF.2.2⟩,hb.block b hF.2.1⟩)⟩
theorem abR.block{w:World}{base:Nat}{e:TypeId}{sz:Nat}{es:List (List D)}{v:Value}(h:abR w base e sz es v):∀k,some k=v.ownBlock->base<=k/\k<w.heap.size:=by
 obtain⟨xs,h1,_⟩:=h;exact aS h1
theorem afA{w:World}{F:Nat->Prop}:∀{c:aT} {cs:List Value},dA w F c cs->cs.length=6/\∀u∈cs,u.oneCell'=true:=by
 intro c cs h;obtain⟨k,ns,nl,s,A,n,c0,A',n',LW,rfl⟩:=h.cells;refine⟨rfl,?_⟩;intro u hu;simp only[z15,List.not_mem_nil,or_false] at hu
 rcases hu with rfl | rfl | rfl | rfl | rfl | rfl<;>rfl
end Go.Proofs.YtgmnnegfndpakaaGreatDoor
namespace Go.Proofs.YtgmnnegfndpakaaGreatDoor
open Go Go.RowKit
mutual
def okV:D->Prop
 | .val _=>True
 | .sl _ es=>uJ es
def uJ:List (List D)->Prop
 | []=>True
 | e::es=>(e≠[]/\yK e)/\uJ es
def yK:List D->Prop
 | []=>True
 | d::ds=>okV d/\yK ds
end
theorem au.lt{w:World}{F:Nat->Prop}{e:List D}{cs:List Value}{b off:Nat}(dD:e≠[])(h:au w F e cs)(hc:cu w b off cs):b<w.heap.size:=by
 have hl:=h.len
 cases cs with
 | nil=>cases e with
   | nil=>exact absurd rfl dD
   | cons d ds=>simp at hl
 | cons v r=>exact hc.lt
mutual
theorem gI.here{w:World}{F:Nat->Prop}:∀(d:D) (v:Value),okV d->gI w F d v->gI w (· <w.heap.size) d v
 | .val v,u,_,h=>by rw[gI] at h ⊢;exact h
 | .sl sz es,u,ho,h=>by
   rw[okV] at ho;rw[gI] at h ⊢;obtain⟨A,c,e,hl,h1⟩:=h;refine⟨A,c,e,hl,λhp=>?_⟩;obtain⟨b,off,ha,hb,hr⟩:=h1 hp;obtain⟨g1,g2⟩:=bK.here sz es b off ho hr;exact⟨b,off,ha,g2 (by intro e;rw[e] at hp;simp at hp),g1⟩
theorem bK.here{w:World}{F:Nat->Prop}(sz:Nat):∀(es:List (List D)) (b off:Nat),uJ es->bK w F sz es b off->bK w (· <w.heap.size) sz es b off/\(es≠[]->b<w.heap.size)
 | [],_,_,_,_=>⟨by rw[bK];trivial,λh=>absurd rfl h⟩
 | e::es,b,off,ho,h=>by
   rw[uJ] at ho;rw[bK] at h ⊢;obtain⟨⟨cs,hc,hr⟩,hl⟩:=h;exact⟨⟨⟨cs,hc,au.here e cs ho.1.2 hr⟩,(bK.here sz es b (off+sz) ho.2 hl).1⟩,λ_=>hr.lt ho.1.1 hc⟩
theorem au.here{w:World}{F:Nat->Prop}:∀(ds:List D) (cs:List Value),yK ds->au w F ds cs->au w (· <w.heap.size) ds cs
 | [],_,_,h=>by rw[au] at h ⊢;exact h
 | d::ds,cs,ho,h=>by
   rw[yK] at ho;rw[au] at h ⊢;obtain⟨v,r,e,h1,h2⟩:=h;exact⟨v,r,e,gI.here d v ho.1 h1,au.here ds r ho.2 h2⟩
end
theorem Zp{es:List (List D)}:uJ es↔∀e∈es,e≠[]/\yK e:=by
 induction es with
 | nil=>rw[uJ];simp
 | cons e es ih=>rw[uJ,ih];simp
theorem au.below{w w':World}{B:Nat}{ds:List D}{cs:List Value}(h:au w (· <B) ds cs)(hb:Below B w w'):au w' (· <B) ds cs:=au.keep (λb rX=>⟨rX,hb.block b rX⟩) _ _ h
def bM(w:World)(F:Nat->Prop)(sz:Nat)(es:List (List D))(A:Option Addr)(n:Nat):Prop:=n=es.length/\(0<n->∃b off,A=some ⟨b,off,none⟩/\F b/\bK w F sz es b off)
theorem bM.nil(w:World)(F:Nat->Prop)(sz:Nat)(A:Option Addr):bM w F sz [] A 0:=⟨rfl,λh=>by simp at h⟩
theorem bM.keep{w w':World}{F F':Nat->Prop}{sz:Nat}{es:List (List D)}{A:Option Addr}{n:Nat}(h:bM w F sz es A n)(hF:∀b,F b->F' b/\w'.heap[b]?=w.heap[b]?):bM w' F' sz es A n:=by
 refine⟨h.1,λhp=>?_⟩;obtain⟨b,off,hA,hb,hr⟩:=h.2 hp;exact⟨b,off,hA,(hF b hb).1,bK.keep hF _ _ _ _ (hF b hb).2 hr⟩
theorem bM.below{w w':World}{B:Nat}{sz:Nat}{es:List (List D)}{A:Option Addr}{n:Nat}(h:bM w (· <B) sz es A n)(hb:Below B w w'):bM w' (· <B) sz es A n:=h.keep λb rX=>⟨rX,hb.block b rX⟩
theorem bM.here{w:World}{F:Nat->Prop}{sz:Nat}{es:List (List D)}{A:Option Addr}{n:Nat}(h:bM w F sz es A n)(ho:uJ es):bM w (· <w.heap.size) sz es A n:=by
 refine⟨h.1,λhp=>?_⟩;obtain⟨b,off,hA,hb,hr⟩:=h.2 hp;obtain⟨g1,g2⟩:=bK.here sz es b off ho hr;exact⟨b,off,hA,g2 (by intro e;have:=h.1;rw[e] at this;simp at this;omega),g1⟩
theorem gI.row{w:World}{F:Nat->Prop}{sz:Nat}{es:List (List D)}{v:Value}(h:gI w F (.sl sz es) v):∃A n c,v= .slice A n c/\n<6000000000000/\bM w F sz es A n:=by
 rw[gI.LX] at h;obtain⟨A,c,e,h1,h2⟩:=h;exact⟨A,_,c,e,h1,rfl,h2⟩
theorem bM.rep{w:World}{F:Nat->Prop}{sz:Nat}{es:List (List D)}{A:Option Addr}{n c:Nat}(h:bM w F sz es A n)(hn:n<6000000000000):gI w F (.sl sz es) (.slice A n c):=by
 rw[gI.LX];exact⟨A,c,by rw[h.1],by rw[<-h.1];exact hn,λhp=>h.2 (by rw[h.1];exact hp)⟩
theorem bM.elem{w:World}{F:Nat->Prop}{sz:Nat}{es:List (List D)}{A:Option Addr}{n:Nat}(h:bM w F sz es A n){i:Nat}(hi:i<n):
 ∃b off e cs,A=some ⟨b,off,none⟩/\es[i]?=some e/\cu w b (off+i*sz) cs/\au w F e cs:=by
 obtain⟨hn,h⟩:=h;obtain⟨b,off,hA,_,hr⟩:=h zO;have hx:es[i]?=some (es[i]'zO):=z6 zO;obtain⟨cs,h1,h2⟩:=hr.get i _ hx;exact⟨b,off,_,cs,hA,hx,h1,h2⟩
inductive aJ where
 | mk (k mn mx el:Int) (c:aT) (pr:Int) (args:List aJ)
def aZ:aJ->List D
 | .mk k mn mx el c pr args=>[.val (.int .i64 k),.val (.int .i64 mn),.val (.int .i64 mx),.val (.int .i64 el)]++wC c++[.val (.int .i64 pr),.sl 12 (ahb args)]
where ahb:List aJ->List (List D)
 | []=>[]
 | p::l=>aZ p::ahb l
theorem amo(l:List aJ):aZ.ahb l=l.map aZ:=by
 induction l with
 | nil=>rfl
 | cons c l ih=>rw[aZ.ahb,ih,List.map_cons]
theorem Et(k mn mx el:Int)(c:aT)(pr:Int)(args:List aJ):aZ (.mk k mn mx el c pr args)=[.val (.int .i64 k),.val (.int .i64 mn),.val (.int .i64 mx),.val (.int .i64 el)]++wC c++[.val (.int .i64 pr),.sl 12 (args.map aZ)]:=by
 rw[aZ,amo]
theorem abS(p:aJ):(aZ p).length=12:=by cases p;rw[Et];simp[abP]
def nmD(x:Nm):List D:=[.val (.string x.1),.val (.string x.2)]
def nU(l:List Nm):List D:=[.sl 2 (l.map nmD)]
theorem Ug{a b:List D}:yK (a++b)↔yK a/\yK b:=by
 induction a with
 | nil=>rw[List.nil_append,yK];simp
 | cons d a ih=>rw[List.cons_append,yK,yK,ih,and_assoc]
mutual
theorem ajq:∀c:aT,yK (wC c)
 | .mk k ns nl s ex ar=>by
   rw[Es];simp only[yK,okV,true_and,and_true];exact⟨Yp ex,Yp ar⟩
theorem Yp:∀l:List aT,uJ (l.map wC)
 | []=>by rw[List.map_nil,uJ];trivial
 | c::l=>by
   rw[List.map_cons,uJ];exact⟨⟨λe=>by have:=abP c;rw[e] at this;simp at this,ajq c⟩,Yp l⟩
end
mutual
theorem jK:∀p:aJ,yK (aZ p)
 | .mk k mn mx el c pr args=>by
   rw[Et,Ug,Ug];simp only[yK,okV,true_and,and_true];exact⟨ajq c,TE args⟩
theorem TE:∀l:List aJ,uJ (l.map aZ)
 | []=>by rw[List.map_nil,uJ];trivial
 | p::l=>by
   rw[List.map_cons,uJ];exact⟨⟨λe=>by have:=abS p;rw[e] at this;simp at this,jK p⟩,TE l⟩
end
theorem ar7(l:List Nm):uJ (l.map nmD):=by
 rw[Zp];intro e he;obtain⟨x,_,rfl⟩:=List.mem_map.1 he;simp[nmD,yK,okV]
theorem Nz(l:List (List Nm)):uJ (l.map nU):=by
 rw[Zp];intro e he;obtain⟨x,_,rfl⟩:=List.mem_map.1 he;simp only[nU,yK,okV,and_true];exact⟨zP,ar7 x⟩
theorem abU{w:World}{F:Nat->Prop}{k mn mx el:Int}{c:aT}{pr:Int}{args:List aJ}{cs:List Value}(h:au w F (aZ (.mk k mn mx el c pr args)) cs):
 ∃c0 c1 c2 c3 c4 c5 A n cap,cs=[.int .i64 k,.int .i64 mn,.int .i64 mx,.int .i64 el,c0,c1,c2,c3,c4,c5,.int .i64 pr,.slice A n cap]/\dA w F c [c0,c1,c2,c3,c4,c5]/\n<6000000000000/\bM w F 12 (args.map aZ) A n:=by
 cases c with
 | mk ck ns nl s ex ar=>
   rw[Et,Es] at h;simp only[List.cons_append,List.nil_append,au.gu,au.oL,gI.rq] at h;obtain⟨_,_,rfl,rfl,_,_,rfl,rfl,_,_,rfl,rfl,_,_,rfl,rfl,u0,_,rfl,h0,u1,_,rfl,h1,u2,_,rfl,h2,u3,_,rfl,h3,u4,_,rfl,h4,u5,_,rfl,h5,_,_,rfl,rfl,u6,_,rfl,h6,rfl⟩:=h;obtain⟨A,n,cap,rfl,hn,hr⟩:=gI.row h6;refine⟨u0,u1,u2,u3,u4,u5,A,n,cap,rfl,?_,hn,hr⟩;rw[Vf,Es];simp only[au.gu,au.oL,gI.rq];exact⟨_,_,rfl,h0,_,_,rfl,h1,_,_,rfl,h2,_,_,rfl,h3,_,_,rfl,h4,_,_,rfl,h5,rfl⟩
abbrev o5 (k mn mx el ck:Int) (ns nl sp:ByteArray) (A1:Option Addr) (n1 c1:Nat) (A2:Option Addr) (n2 c2:Nat) (pr:Int) (A:Option Addr) (n c:Nat):Array Value:=#[.int .i64 k,.int .i64 mn,.int .i64 mx,.int .i64 el,.int .i64 ck,.string ns,.string nl,.string sp,.slice A1 n1 c1,.slice A2 n2 c2,.int .i64 pr,.slice A n c]
end Go.Proofs.YtgmnnegfndpakaaGreatDoor
namespace Go.Proofs.YtgmnnegfndpakaaGreatDoor
open Go.RowKit
mutual
def O4:aT->Nat
 | .mk _ _ _ _ ex ar=>1+max (LY ex) (LY ar)
def LY:List aT->Nat
 | []=>0
 | c::l=>max (O4 c) (LY l)
end
theorem aro(c:aT):1<=O4 c:=by cases c;rw[O4];omega
mutual
theorem QB:∀(c:aT) (r:Nat),(O4 c<=r->kC c<=100->ni r c=kC c)/\(r<O4 c\/100<kC c->100<ni r c)
 | .mk k ns nl s ex ar,0=>by
   have:=aro (.mk k ns nl s ex ar);rw[ni];exact⟨λh=>by omega,λ_=>by omega⟩
 | .mk k ns nl s ex ar,r+1=>by
   rw[ni,O4,kC];obtain⟨h1,h2⟩:=JD ex r 1;by_cases he:LY ex<=r/\1+iZ ex<=100
   ·rw[h1 he.1 he.2]
    obtain⟨h3,h4⟩:=JD ar r (1+iZ ex);exact⟨λa b=>h3 zO zO,λa=>h4 zO⟩
   ·have h5:=h2 zO
    obtain⟨h3,h4⟩:=JD ar r (kW r 1 ex);exact⟨λa b=>by omega,λ_=>h4 zO⟩
theorem JD:∀(l:List aT) (r n:Nat),(LY l<=r->n+iZ l<=100->kW r n l=n+iZ l)/\(r<LY l\/100<n+iZ l->100<kW r n l)
 | [],r,n=>by rw[kW,LY,iZ];exact⟨λ_ _=>by omega,λh=>by omega⟩
 | c::l,r,n=>by
   rw[kW,LY,iZ];by_cases hn:n<100000
   ·rw[if_pos hn]
    obtain⟨h1,h2⟩:=QB c r;obtain⟨h3,h4⟩:=JD l r (n+ni r c);by_cases he:O4 c<=r/\kC c<=100
    ·have h5:=h1 he.1 he.2
     rw[h5] at h3 h4 ⊢;exact⟨λa b=>by rw[h3 zO zO];omega,λa=>h4 zO⟩
    ·have h5:=h2 zO
     exact⟨λa b=>by omega,λa=>h4 zO⟩
   ·rw[if_neg hn];exact⟨λa b=>by omega,λ_=>by omega⟩
end
theorem ajr(k:Int)(ns nl s:ByteArray)(n n':Nat):(rV k ns nl s n n'&&EW k ns nl s n n')=uI k ns nl s n n':=by
 unfold rV EW uI;by_cases h1:k=1
 ·subst h1
  simp;by_cases hn:n=0
  ·subst hn;simp[Bool.and_assoc]
  ·simp[hn]
 ·by_cases h2:k=2
  ·subst h2
   simp;cases (eqS ns ⟨#[]⟩)<;>cases (eqS nl ⟨#[]⟩)<;>simp[Bool.and_assoc]
  ·by_cases h3:k=3
   ·subst h3;simp[Bool.and_assoc]
   ·by_cases h4:k=4
    ·subst h4
     by_cases hn:n=0
     ·subst hn
      by_cases CO:0<n'
      ·simp[CO,show 1<=n' by omega,Bool.and_assoc]
      ·simp[CO,show ¬1<=n' by omega]
     ·simp[hn]
    ·simp[h1,h2,h3,h4]
mutual
theorem Zq:∀(c:aT) (d m:Nat) (f:Bool),m<=100->(O4 c+d<=11->m+kC c<=100->l7 d c m f=(m+kC c,(f&&rU c),true))/\(11<O4 c+d\/100<m+kC c->(l7 d c m f).2.2=false)
 | .mk k ns nl s ex ar,d,m,f,hm=>by
   rw[l7,O4,kC,rU];by_cases h0:10<d\/100<m+1
   ·rw[if_pos h0];exact⟨λa b=>by omega,λ_=>rfl⟩
   ·rw[if_neg h0]
    obtain⟨h1,h2⟩:=QC ex (d+1) (m+1) (f&&rV k ns nl s ex.length ar.length&&EW k ns nl s ex.length ar.length) zO zO;by_cases he:LY ex+(d+1)<=11/\m+1+iZ ex<=100
    ·have h5:=h1 he.1 he.2
     rw[h5];simp only[if_true];obtain⟨h3,h4⟩:=QC ar (d+1) (m+1+iZ ex) (f&&rV k ns nl s ex.length ar.length&&EW k ns nl s ex.length ar.length&&lI ex) zO zO;refine⟨λa b=>?_,λa=>h4 zO⟩;rw[h3 zO zO];have hk:=ajr k ns nl s ex.length ar.length;rw[Bool.and_assoc f,hk];refine Prod.ext (by simp;omega) (Prod.ext ?_ rfl);simp only;cases f<;>cases lI ex<;>cases lI ar<;>simp
    ·have h5:=h2 zO
     simp only[h5];exact⟨λa b=>by omega,λ_=>h5⟩
theorem QC:∀(l:List aT) (d m:Nat) (f:Bool),m<=100->d<=11->(LY l+d<=11->m+iZ l<=100->nR d l m f=(m+iZ l,(f&&lI l),true))/\(11<LY l+d\/100<m+iZ l->(nR d l m f).2.2=false)
 | [],d,m,f,hm,hd=>by rw[nR,LY,iZ,lI];exact⟨λ_ _=>by simp,λh=>by omega⟩
 | c::l,d,m,f,hm,hd=>by
   rw[nR,LY,iZ,lI];obtain⟨h1,h2⟩:=Zq c d m f hm;by_cases he:O4 c+d<=11/\m+kC c<=100
   ·have h5:=h1 he.1 he.2
    rw[h5];simp only[if_true];obtain⟨h3,h4⟩:=QC l d (m+kC c) (f&&rU c) zO hd;refine⟨λa b=>?_,λa=>h4 zO⟩;rw[h3 zO zO,Bool.and_assoc,Nat.add_assoc]
   ·have h5:=h2 zO
    simp only[h5];exact⟨λa b=>by omega,λ_=>h5⟩
end
theorem Wx(c:aT):xO c=jF c:=by
 unfold xO jF;obtain⟨h1,h2⟩:=QB c 10;obtain⟨h3,h4⟩:=Zq c 1 0 true zO;by_cases he:O4 c<=10/\kC c<=100
 ·have e1:¬100<kC c:=by omega
  rw[h3 zO zO,h1 he.1 he.2,if_neg e1];simp
 ·have e1:100<ni 10 c:=h2 zO
  rw[h4 zO,if_pos e1];simp
theorem QD{c:aT}(h:jF c=0):kC c<=100/\rU c=true:=by
 unfold jF at h;obtain⟨h1,h2⟩:=QB c 10
 split at h
 ·simp at h
 ·rename_i h3
  refine⟨?_,?_⟩
  ·by_cases he:kC c<=100
   ·exact he
   ·exact absurd (h2 (.inr zO)) h3
  ·by_cases hf:rU c=true
   ·exact hf
   ·rw[if_neg hf] at h;simp at h
theorem Uh{k:Int}{ns nl s:ByteArray}{n n':Nat}(h:uI k ns nl s n n'=true):n<=1/\(k=1\/k=2\/k=3\/k=4)/\(k≠4->n'=0)/\(k=1->jJ ns nl=true)/\(k=2->s.size<=200):=by
 unfold uI at h;by_cases h1:k=1
 ·subst h1;simp at h;obtain⟨⟨⟨h1,h2⟩,h3⟩,h4⟩:=h;subst h3;exact⟨zO,.inl rfl,λ_=>h4,λ_=>h1,λh=>by simp at h⟩
 ·rw[if_neg h1] at h
  by_cases h2:k=2
  ·subst h2;simp at h;obtain⟨⟨⟨h1,h2⟩,h3⟩,h4⟩:=h;exact⟨h3,.inr (.inl rfl),λ_=>h4,λh=>by simp at h,λ_=>h2⟩
  ·rw[if_neg h2] at h
   by_cases h3:k=3
   ·subst h3;simp at h;obtain⟨⟨_,h3⟩,h4⟩:=h;exact⟨h3,.inr (.inr (.inl rfl)),λ_=>h4,λh=>by simp at h,λh=>by simp at h⟩
   ·rw[if_neg h3] at h
    by_cases h4:k=4
    ·subst h4;simp at h;obtain⟨⟨_,h3⟩,h4⟩:=h;subst h3;exact⟨zO,.inr (.inr (.inr rfl)),λh=>absurd rfl h,λh=>by simp at h,λh=>by simp at h⟩
    ·rw[if_neg h4] at h;cases h
mutual
theorem Yq(a b:ByteArray):∀c,rU c=true->pK c a b=vk c a b
 | .mk k ns nl s ex ar,h=>by
   rw[rU,z7,z7] at h;obtain⟨⟨h1,h2⟩,h3⟩:=h;obtain⟨g1,g2,g3,_⟩:=Uh h3;rw[pK,vk,Yr a b ex h1,Yr a b ar h2]
   have e1:Cm ex a b=inH ex a b:=by
    match ex,g1 with
    | [],_=>rw[Cm,inH]
    | [e],_=>rw[Cm,inH,Cm,Bool.or_false]
    | _::_::_,g=>simp at g
   rw[e1]
   congr 1
   rcases g2 with rfl | rfl | rfl | rfl<;>simp
theorem Yr(a b:ByteArray):∀l,lI l=true->F8 l a b=Cm l a b
 | [],_=>by rw[F8,Cm]
 | c::l,h=>by
   rw[lI,z7] at h;rw[F8,Cm,Yq a b c h.1,Yr a b l h.2]
end
theorem ajU(c:aT)(a b:ByteArray):xg (xO c) (jJ a b) (pK c a b)=xg (jF c) (jJ a b) (vk c a b):=by
 rw[Wx];unfold xg
 split
 ·rename_i h;rw[Yq a b c (QD h).2]
 ·rfl
end Go.Proofs.YtgmnnegfndpakaaGreatDoor
