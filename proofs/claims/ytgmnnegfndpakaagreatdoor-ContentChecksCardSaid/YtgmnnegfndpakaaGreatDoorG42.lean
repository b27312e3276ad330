import Derived.Test.YtgmnnegfndpakaaGreatDoorLivA
set_option maxHeartbeats 20000000
set_option maxRecDepth 100000
namespace Go.Proofs.YtgmnnegfndpakaaGreatDoor
open Go Go.RowKit
def FY(x:ByteArray×ByteArray):Value:=.agg #[.string x.1,.string x.2]
def Ai(x y:ByteArray×ByteArray):Bool:=eqS x.1 y.1&&eqS x.2 y.2
theorem axU(W:World):(sizeOf 9).run Tryz.prog W= .ok 1 W:=by kernel_rfl
theorem agF(a b:ByteArray)(W:World):(part 9 #[.string a,.string b] 0).run Tryz.prog W= .ok (.string a) W:=by kernel_rfl
theorem arH(a b:ByteArray)(W:World):(part 9 #[.string a,.string b] 1).run Tryz.prog W= .ok (.string b) W:=by kernel_rfl
theorem ak1(a b:ByteArray)(W:World):(Op.equalIn 9999 9 (.string a) (.string b)).run Tryz.prog W= .ok (eqS a b) W:=by
 rw[Op.equalIn];simp only[Sem.run_bind,run_underlying Tryz.underlying9,Result.andThen,Sem.run_pure];rw[Yz]
theorem adH(x y:ByteArray×ByteArray)(W:World):(Op.equal 100 (FY x) (FY y)).run Tryz.prog W= .ok (Ai x y) W:=by
 unfold Op.equal Op.maxDepth FY Ai;rw[Op.equalIn];simp only[Sem.run_bind,run_underlying Tryz.underlying100,Result.andThen,axU];simp[forIn];simp only[List.range',List.forIn'_cons,List.forIn'_nil,Sem.run_bind,agF,ak1,Result.andThen,Nat.zero_add];cases h1:eqS x.1 y.1<;>cases h2:eqS x.2 y.2<;>simp[Sem.run_bind,arH,agF,ak1,h1,h2,Result.andThen,Sem.run_pure]
theorem PO{β:Type}{val:β->Value}(x:ByteArray×ByteArray)(W:World):∀(l:List ((ByteArray×ByteArray)×β)) (i:Nat),(Instr.findAsking 100 (FY x) (gE FY val l i) i).run Tryz.prog W= .ok ((xR Ai x l i).map λp=>(p.1,val p.2)) W
 | [],_=>rfl
 | (y,v)::l,i=>by
   rw[gE,Instr.findAsking,xR];simp only[Sem.run_bind,adH,Result.andThen];cases Ai x y
   ·simp only[Bool.false_eq_true,if_false]
    exact PO x W l (i+1)
   ·rfl
theorem ahU{β:Type}{val:β->Value}(x:ByteArray×ByteArray)(W:World)(l:List ((ByteArray×ByteArray)×β)):(Instr.findKey 100 (FY x) (gE FY val l 0)).run Tryz.prog W= .ok ((xR Ai x l 0).map λp=>(p.1,val p.2)) W:=by
 have h:=PO (val:=val) x W l 0
 cases l with
 | nil=>exact MapKept.run_findKey Tryz.underlying100 rfl
 | cons p l=>
   obtain⟨y,v⟩:=p;rw[gE] at h ⊢;simp only[Instr.findKey,Sem.run_bind,run_underlying Tryz.underlying100,Result.andThen,Instr.findNow,Instr.sameNow];exact h
theorem Oz(a b:ByteArray×ByteArray):Ai a b=true↔a=b:=by
 unfold Ai;rw[z7,iV,iV];exact⟨λh=>Prod.ext h.1 h.2,λh=>by rw[h];exact⟨rfl,rfl⟩⟩
theorem TN:NM Tryz.prog 100 FY Ai where
 chk e k W:=by
  show _=_;cases e<;>kernel_rfl
 find β val l k W:=ahU k W l
 inj a b h:=(Oz a b).1 h
 same k:=by simp[FY,Instr.sameBits,MapKept.bytes_beq]
theorem KE{κ β:Type}{P:Program}{ops:Array Oper}{o:Oper}{a:Act}{w:World}{K:Act->World->Prop}{Q:Exit->Act->World->Prop}{E:Prop}(hg:o.guard=none)(m x v:Operand)(mt:TypeId)(uQ:o.op= .insert mt m x v)
 {kt et:TypeId} {enc:κ->Value} {val:β->Value} {eq:κ->κ->Bool} (KG:NM P kt enc eq) (hm:P.underlying mt=some (.map kt et)) (g:Nat) (l:List (κ×β)) (hs:a.eval m= .map (some g)) (h:gQ w g enc val l)
 (k:κ) (hk:a.eval x=enc k) (b:β) (hv:a.eval v=val b)
 (hK:∀w',gQ w' g enc val (jh eq k b l)->(∀b,b≠g->w'.heap[b]?=w.heap[b]?)->w'.heap.size=w.heap.size->Kept (· =g) w w'->K (a.put o.dst undef) w'):if Region.wanted o (yielded ops a.tmps)=true then Oper.wp P o a w K Q else E:=by
 have hw:Region.wanted o (yielded ops a.tmps)=true:=by simp[Region.wanted,hg]
 rw[if_pos hw];obtain⟨w',hw',h1,h2,h3,h4⟩:=h.put (l':=jh eq k b l);have bG:=ED KG hm h k b;rw[hw'] at bG;unfold Oper.wp;simp[execOp,uQ,hs,hk,hv,bG,Result.andThen];exact hK w' h1 h2 h3 h4
structure Jm where
 a:Hdr
 b:Hdr
 from_:Int
 letter:Int
def Gt(x:Jm):List Value:=[x.a.v,x.b.v,.int .i64 x.from_,.int .i64 x.letter]
theorem arI(x:Jm):(Gt x).length=4:=rfl
theorem aun:(Tryz.prog.info? 96).map (λi=>(i.zero,i.size,i.bytes))=some (some (.agg #[.slice none 0 0,.slice none 0 0,.int .i64 0,.int .i64 0]),4,64):=by kernel_rfl
theorem tyD:rC Tryz.prog 97 96 (.agg #[.slice none 0 0,.slice none 0 0,.int .i64 0,.int .i64 0]) 4 64:=sU zK aun zK zD zD
theorem anA(w:World)(base:Nat)(l:List Jm)(v:Value)(dV:ax w base 96 4 Gt l v)(g c:Nat)(x:Jm)(hc:cu w g 0 (Gt x))(hlen:l.length<1000000000)(eY:base<=w.heap.size)(ty:TypeId):
 ∃v' w',(Builtin.append_ #[97,97] ty #[v,.slice (some ⟨g,0,none⟩) 1 c]).run Tryz.prog w= .ok v' w'/\ax w' base 96 4 Gt (l++[x]) v'/\w.grownBy w' v.ownBlock/\(v'.ownBlock=v.ownBlock\/v'.ownBlock=some w.heap.size):=by
 obtain⟨ht,i,hi,hz,bY,nP,ry,h0,-⟩:=tyD
 obtain⟨v',w',bG,h2,h3,-,h5⟩:=run_append_own_at (P:=Tryz.prog) w base 97 ty 96 i _ 4 64 ht hi hz bY nP ry h0 v _ _ dV ⟨g,0,none⟩ 1 c (Gt x) rfl (λj u hu=>by
  have h:=hc j u hu;rw[Nat.zero_add] at h;by_cases e:j=0
  ·subst e;simpa[Addr.add] using h
  ·simpa[Addr.add,e] using h) (by intro u hu;simp only[Gt,z15,List.not_mem_nil,or_false] at hu;rcases hu with rfl | rfl | rfl | rfl<;>rfl) (by unfold maxLen;omega) zO eY
 refine⟨v',w',bG,?_,h3,h5⟩;unfold ax;rw[z5,List.flatMap_append];simpa using h2
structure Ei (W:World) (base:Nat) (ns:List Jm) (v:Value) (ts:List mW):Prop where
 own:ax W base 96 4 Gt ns v
 len:ns.length=ts.length
 row:∀(i:Nat) (n:Jm) (t:mW),ns[i]?=some n->ts[i]?=some t->ax W base 3 1 aV t.a n.a.v/\ax W base 3 1 aV t.b n.b.v/\n.from_=t.from_/\n.letter=(t.letter:Int)
section
variable {W W':World} {base:Nat} {ns:List Jm} {v:Value} {ts:List mW}
theorem Ei.keep(h:Ei W base ns v ts)(hb:∀q (cs:Array Value) (t:TypeId),base<=q->W.heap[q]?=some (.cells cs t)->W'.heap[q]?=W.heap[q]?):Ei W' base ns v ts where
 own:=h.own.bu λq hq=>by obtain⟨cs,hc⟩:=h.own.bC hq;exact hb q cs 96 (h.own.block_lt hq).1 hc
 len:=h.len
 row:=λi n t hn ht=>by
  obtain⟨h1,h2,h3,h4⟩:=h.row i n t hn ht;exact⟨h1.bu λq hq=>by obtain⟨cs,hc⟩:=h1.bC hq;exact hb q cs 3 (h1.block_lt hq).1 hc,h2.bu λq hq=>by obtain⟨cs,hc⟩:=h2.bC hq;exact hb q cs 3 (h2.block_lt hq).1 hc,h3,h4⟩
theorem Ei.below(h:Ei W base ns v ts)(hb:Bw W W'):Ei W' base ns v ts:=h.keep λq cs t _ hc=>hb.block q (aC hc)
theorem Ei.add(h:Ei W base ns v ts){n:Jm}{t:mW}(ha:ax W base 3 1 aV t.a n.a.v)(hb:ax W base 3 1 aV t.b n.b.v)(hf:n.from_=t.from_)(hl:n.letter=(t.letter:Int)){v':Value}(ho:ax W' base 96 4 Gt (ns++[n]) v')(hg:W.grownBy W' v.ownBlock):Ei W' base (ns++[n]) v' (ts++[t]):=by
 have k1:∀{l:List Nat} {u:Value},ax W base 3 1 aV l u->ax W' base 3 1 aV l u:=λhu=>hu.bu λq hq=>hg.block q (hu.block_lt hq).2 λe=>by
  obtain⟨cs,hc⟩:=hu.bC hq;obtain⟨cs',yu⟩:=h.own.bC e.symm;exact iP hc yu zD rfl
 refine⟨ho,by rw[z5,z5,h.len];rfl,λi n' t' hn ht=>?_⟩;rw[List.getElem?_append] at hn ht;by_cases hi:i<ns.length
 ·rw[if_pos hi] at hn
  rw[if_pos (by rw[<-h.len];exact hi)] at ht;obtain⟨h1,h2,h3⟩:=h.row i n' t' hn ht;exact⟨k1 h1,k1 h2,h3⟩
 ·rw[if_neg hi] at hn
  rw[if_neg (by rw[<-h.len];exact hi)] at ht
  have e1:i - ns.length=0:=by
   have:=(List.getElem?_eq_some_iff.1 hn).1;simp at this;omega
  rw[e1] at hn;rw[<-h.len,e1] at ht;simp only[List.getElem?_cons_zero,Option.some.injEq] at hn ht;subst hn;subst ht;exact⟨k1 ha,k1 hb,hf,hl⟩
end
def Ak(W:World)(g:Nat)(ts:List mW):Prop:=∃l,gQ W g FY bV l/\∀a b:List Nat,(∀s∈a,s<65536)->(∀s∈b,s<65536)->dP Ai (fH a,fH b) l=if uZ a b ts=true then some true else none
theorem Ak.keep{W W':World}{g:Nat}{ts:List mW}(h:Ak W g ts)(hb:W'.heap[g]?=W.heap[g]?):Ak W' g ts:=by
 obtain⟨l,h1,h2⟩:=h;exact⟨l,h1.keep hb,h2⟩
theorem Ak.lt{W:World}{g:Nat}{ts:List mW}(h:Ak W g ts):g<W.heap.size:=by
 obtain⟨l,h1,-⟩:=h;exact h1.lt
theorem afm(a b:List Nat)(ts:List mW)(t:mW):uZ a b (ts++[t])=(uZ a b ts||(decide (t.a=a)&&decide (t.b=b))):=by
 unfold uZ;rw[List.any_append,List.any_cons,List.any_nil,Bool.or_false]
theorem aaG{l:List ((ByteArray×ByteArray)×Bool)}{ts:List mW}(h:∀a b:List Nat,(∀s∈a,s<65536)->(∀s∈b,s<65536)->dP Ai (fH a,fH b) l=if uZ a b ts=true then some true else none){t:mW}(ha:∀s∈t.a,s<65536)(hb:∀s∈t.b,s<65536):
 ∀a b:List Nat,(∀s∈a,s<65536)->(∀s∈b,s<65536)->dP Ai (fH a,fH b) (jh Ai (fH t.a,fH t.b) true l)=if uZ a b (ts++[t])=true then some true else none:=λa b h1 h2=>by
 rw[Lr Oz,h a b h1 h2,afm];by_cases e:Ai (fH a,fH b) (fH t.a,fH t.b)=true
 ·have e':=(Oz _ _).1 e
  obtain⟨e1,e2⟩:=Prod.mk.inj e';obtain rfl:=YU h1 ha e1;obtain rfl:=YU h2 hb e2;rw[if_pos e];simp
 ·rw[if_neg e]
  have dD:(decide (t.a=a)&&decide (t.b=b))=false:=by
   cases hd:(decide (t.a=a)&&decide (t.b=b)) with
   | false=>rfl
   | true=>
     rw[z7,z18,z18] at hd;exact absurd ((Oz _ _).2 (by rw[hd.1,hd.2])) e
  rw[dD,Bool.or_false]
theorem Ak.start{W:World}{g:Nat}(h:gQ W g FY bV (jh Ai (fH [0],fH [0]) true [])):Ak W g [⟨[0],[0],-1,0⟩]:=by
 refine⟨_,h,?_⟩;have:=aaG (l:=[]) (ts:=[]) (λa b _ _=>rfl) (t:=⟨[0],[0],-1,0⟩) (by intro s hs;rw[og] at hs;omega) (by intro s hs;rw[og] at hs;omega);simpa using this
theorem Ak.look{W:World}{g:Nat}{ts:List mW}(h:Ak W g ts){a b:List Nat}(ha:∀s∈a,s<65536)(hb:∀s∈b,s<65536):(Instr.lookup 101 (.map (some g)) (.agg #[.string (fH a),.string (fH b)]) false).run Tryz.prog W= .ok (.bool (uZ a b ts)) W:=by
 obtain⟨l,h1,h2⟩:=h;have e:=qX (P:=Tryz.prog) (zv:=.bool false) TN Tryz.underlying101 (λW=>by kernel_rfl) h1 (fH a,fH b) false;rw[h2 a b ha hb] at e
 cases hk:uZ a b ts with
 | true=>rw[hk] at e;exact e
 | false=>rw[hk] at e;exact e
end Go.Proofs.YtgmnnegfndpakaaGreatDoor
namespace Go.Proofs.YtgmnnegfndpakaaGreatDoor
open Go.RowKit
theorem Ir{m:eQ}(fQ:mQ m){set:List Nat}(h:∀s∈set,jv m s)(n:Nm):∀s∈lZ m set n,jv m s:=λs hs=>by
 unfold lZ at hs;rw[wI] at hs;obtain⟨t,ht,h1⟩:=List.mem_flatMap.1 hs;unfold IJ at h1;obtain⟨x,hx,rfl⟩:=List.mem_map.1 h1;exact(h t ht).step fQ (List.mem_filter.1 hx).1
theorem Jp{m:eQ}(fQ:mQ m){set:List Nat}(h:∀s∈set,jv m s)(n:Nm):(lZ m set n).length<=4297:=by
 have h1:(lZ m set n).Nodup:=(qW _).imp λh=>Nat.ne_of_lt h;exact zT (Ba _ _ h1 λs hs=>(Ir fQ h n s hs).lt) (EO fQ)
theorem ald{m:eQ}{live:List Nat}{ws:List Nm}{i:Nat}{x:Nm}(h:ws[i]?=some x)(set:List Nat):
 QK m live (ws.drop i) i set=if EX (lZ m set x) live then QK m live (ws.drop (i+1)) (i+1) (lZ m set x) else (false,i):=by
 obtain⟨hi,rfl⟩:=List.getElem?_eq_some_iff.1 h;rw[nZ hi,QK]
theorem aY.Sv{α:Type}{w:World}{F F':Nat->Prop}{sz:Nat}{cells:α->List Value}{l:List α}{A:Option Addr}{n:Nat}(h:aY w F sz cells l A n)(hF:∀k,F k->F' k):aY w F' sz cells l A n:=by
 refine⟨h.1,λhp=>?_⟩;obtain⟨b,off,h1,h2,h3⟩:=h.2 hp;exact⟨b,off,h1,hF _ h2,h3⟩
theorem Sz(p:aJ)(elems:List (List Nm))(ws:List Nm)(cs:List Value)(w:World)(eA:Option Addr)(en ec:Nat)(A:Option Addr)(n c:Nat)(hr:au w (· <w.heap.size) (aZ p) cs)(he:bM w (· <w.heap.size) 1 (elems.map nU) eA en)(jR:en<6000000000000)(hw:aY w (· <w.heap.size) 2 dK ws A n)(hn:n<6000000000000)(hT:Tab w):
 Rt 23 #[.agg cs.toArray,.slice eA en ec,.slice A n c] w (.tuple #[.bool (Fp p elems ws).1,.int .i64 (Fp p elems ws).2.1,.int .i64 (Fp p elems ws).2.2]):=by
 obtain⟨k,mn,mx,el,ck,ns,nl,sp,A1,n1,c1,A2,n2,c2,pr,A0,n0,c0,rfl,hk,-⟩:=aW hr;obtain⟨w1,bI,S1,nC,ai⟩:=af w (.cells #[.int .i64 k,.int .i64 mn,.int .i64 mx,.int .i64 el,.int .i64 ck,.string ns,.string nl,.string sp,.slice A1 n1 c1,.slice A2 n2 c2,.int .i64 pr,.slice A0 n0 c0] 29)
 have e1:w1.heap.size=w.heap.size+1:=by rw[<-bI];simp
 have q0:=aj S1;have SE:=BQ elems p _ eA en ec w1 _ _ (hr.below ai) (he.below ai) jR;obtain⟨E,hE⟩:=zF (kN elems p);obtain⟨R,hR⟩:=zF (Fp p elems ws);rw[hE] at SE;rw[hR];unfold Fp at hR;rw[hE] at hR;have hlen:ws.length=n:=hw.1.symm;have uC:=zH SE;have HR:=zH hr;have HE:=zH he;have HW:=zH hw;have HT:=zH hT;have aQ:=zH S1;have Jj:=zH hE;have pR:=zH hlen;have nK:=zH ai;clear SE hr he hw hT S1 hE hlen;by_cases h0:E=0
 ·subst h0
  rw[if_neg zP] at hR
  have jV:((0:Int) !=0)=false:=by decide
  have ER:decide ((0:Int)≠0)=false:=by decide
  rw[pR.out] at hR;by_cases adU:300<n
  ·rw[if_pos adU] at hR
   have gJ:decide ((300:Int)<(n:Int))=true:=(by simp;omega);subst hR;go_enter Tryz.func23,Tryz.ntmps23
   go_wp2_with (go_at_call 13;refine uC.out.mono ?_;rintro e w2 ⟨rfl,ag⟩)
   refine bodyPost_ret (v:=.tuple #[.bool false,.int .i64 0,.int .i64 3]) (by simp[results,Tryz.results23,go_sem]) rfl ?_;exact⟨rfl,nK.out.seq ag⟩
  ·rw[if_neg adU] at hR
   have gJ:decide ((300:Int)<(n:Int))=false:=(by simp;omega);obtain⟨bv,jS⟩:=zF (ws.any oZ);rw[jS] at hR;have adV:Hid (∀W,Bw w W->Rt 48 #[.slice A n c] W (.bool (!bv))):=zH λW hb=>(by rw[<-jS];exact KZ ws A n c W _ (HW.out.below hb) hn);cases bv
   ·rw[if_neg zP] at hR
    have fQ:=MH Jj.out;have uw:=FW Jj.out;obtain⟨m,hm⟩:=zF (eU elems p);rw[hm] at hR fQ uw;have jr:=zH fQ;have wu:=zH uw;have HM:=zH hm;obtain⟨lv,vX⟩:=zF (aao m);rw[vX] at hR;have Ee:=zH vX;have qG:=zH hR;clear fQ uw hm jS vX hR;go_enter Tryz.func23,Tryz.ntmps23
    go_wp2_with (first
     | (go_at_call 13;refine uC.out.mono ?_
        rintro e w2 ⟨rfl,ag⟩;have mX:Bw w w2:=nK.out.seq ag;have zA:=zH mX;have uS:w1.heap.size<=w2.heap.size:=ag.size;clear q0;have gY:=zH (ae aQ.out ag)
        clear ag mX)
     | (go_at_call 48;refine (adV.out _ zA.out).mono ?_
        rintro e w3 ⟨rfl,az⟩;have Ep:Bw w w3:=zA.out.seq az;have anO:=zH Ep;have su:w2.heap.size<=w3.heap.size:=az.size;have q0:=aj (ae gY.out az);have KL:=FP p elems _ w3 eA en ec (HR.out.keep λq hq=>⟨zO,Ep.block q hq⟩) (HE.out.keep λq hq=>⟨zO,Ep.block q hq⟩) jR Jj.out;rw[HM.out] at KL;have HBU:=zH KL
        clear az Ep KL)
     | (go_at_call 57;refine HBU.out.mono ?_
        rintro e w4 ⟨bm,rfl,Ea,aX,yP⟩;have wU:Bw w w4:=anO.out.seq aX;have IX:w3.heap.size<=w4.heap.size:=aX.size;have DK:=VQ m w4.heap.size bm w4 Ea jr.out (zR _) wu.out (HT.out.below wU);have HLI:=zH DK;have GZ:=zH Ea;have ah7:=zH wU
        clear Ea aX wU DK)
     | (go_at_call 73;refine HLI.out.mono ?_
        rintro e w5 ⟨g,rfl,Jq,Pg,bg⟩;have IY:w4.heap.size<=w5.heap.size:=bg.size;obtain⟨w6,hw6,S6,hs6,dQ⟩:=af w5 (.cells #[.int .i64 0] 3);rw[Ee.out] at Jq;have xy:=zH (Jq.keep (dQ.block g Jq.lt));have auR:=zH (bg.seq dQ);have yX:=zH S6;have HG:=zH Jq.lt
        clear Jq bg S6 dQ))
    go_loopw [12,35] (λs12 s35 W=>∃(i:Nat) (set:List Nat) (A':Option Addr) (n' c':Nat),i<=n/\s35= .int .i64 i/\s12= .slice A' n' c'/\Hid (R=((QK m lv (ws.drop i) i set).1,(QK m lv (ws.drop i) i set).2,0))/\aY W (· <W.heap.size) 1 aV set A' n'/\(∀s∈set,jv m s)/\n'<=1000000/\Bw w6 W)
     (λ_ s35 _=>n - (intOf s35).toNat)
    case atStart=>
     have ho:=sQ (n:=0) (base:=w5.heap.size) yX.out (zR _);obtain⟨A',c',ev,aI,-,-⟩:=ho.row jd zD;simp only[Value.slice.injEq] at ev;obtain⟨rfl,-,rfl⟩:=ev;exact⟨0,[0],_,_,_,zO,rfl,rfl,zH qG.out.symm,aI.Sv (λ_ h=>h.2),λs hs=>by rw[og] at hs;subst hs;exact jv.zero m,zD,Below.refl _ _⟩
    case round=>
     obtain⟨i,set,A',n',c',hi,rfl,rfl,VR,aI,bZ,CO,wV⟩:=hrel;have anP:w6.heap.size<=wr.heap.size:=wV.size;have aH:Bw w wr:=ah7.out.trans ((auR.out.seq wV).mono zO);have hMr:mO wr w4.heap.size bm m:=GZ.out.below (auR.out.trans (wV.mono zO));have PQ:jY wr g lv:=xy.out.keep (wV.block g (by have:=HG.out;omega));by_cases aN:i<n
     ·have jc:decide (i<n)=true:=by simp;omega
      obtain⟨b1,xU,x1,x2,HX,p0,p1,dO⟩:=(HW.out.below aH).name aN c;obtain⟨w7,JX,S7,hs7,eP⟩:=af wr (.cells #[.string x1,.string x2] 23);have d0:=dw S7;have jm:=Dv m w4.heap.size bm set A' n' c' x1 x2 w7 (hMr.below (eP.mono zO)) jr.out zO ((aI.below eP).Sv (λ_ h=>by omega)) CO (λs hs=>(bZ s hs).ok jr.out) wu.out;have wS:=ald (m:=m) (live:=lv) HX.out set;have oO:=Ir jr.out bZ (x1,x2);have jA:=Jp jr.out bZ (x1,x2);obtain⟨nx,xw⟩:=zF (lZ m set (x1,x2));rw[xw] at jm wS oO jA;obtain⟨bk,jB⟩:=zF (EX nx lv);rw[jB] at wS;have pO:=zH jm;have XZ:=zH wS;have Po:=zH oO;have HBL:=zH jA;have Z5:=zH jB;have PG:=zH hMr;have adX:=zH PQ;have nG:=zH aH;have ah8:=zH (wV.seq eP);have oQ:=zH eP;have HGL:=zH PQ.lt;clear jm wS oO jA jB hMr PQ aH eP wV aI bZ xw S7;cases bk
      ·go_wp2_with (first
        | (go_at_call 63;refine pO.out.mono ?_
           rintro e w8 ⟨v8,rfl,MJ,eX⟩;obtain⟨A8,c8,ev,uM,-,-⟩:=MJ.row jd zD;subst ev;obtain⟨n8,UW⟩:=zF nx.length;rw[UW] at uM ⊢;have KN:=H8 g lv nx A8 n8 c8 w8 _ uM (by have:=HBL.out;omega) (adX.out.keep ((oQ.out.seq eX).block g HGL.out));rw[Z5.out] at KN;have KO:=zH KN;have Ac:=zH (ah8.out.seq eX);have YZ:=zH ((nG.out.seq oQ.out).seq eX)
           clear KN MJ uM eX)
        | (go_at_call 74;refine KO.out.mono ?_;rintro e w9 ⟨rfl,uF⟩))
       refine bodyPost_ret (v:=.tuple #[.bool false,.int .i64 i,.int .i64 0]) (by simp[results,Tryz.results23,go_sem]) rfl ?_;refine⟨?_,YZ.out.seq uF⟩;rw[VR.out,XZ.out];rfl
      ·go_wp2_with (first
        | (go_at_call 63;refine pO.out.mono ?_
           rintro e w8 ⟨v8,rfl,MJ,eX⟩;obtain⟨A8,c8,ev,uM,-,-⟩:=MJ.row jd zD;subst ev;obtain⟨n8,UW⟩:=zF nx.length;rw[UW] at uM ⊢;have KN:=H8 g lv nx A8 n8 c8 w8 _ uM (by have:=HBL.out;omega) (adX.out.keep ((oQ.out.seq eX).block g HGL.out));rw[Z5.out] at KN;have KO:=zH KN;have Ac:=zH (ah8.out.seq eX);have YZ:=zH ((nG.out.seq oQ.out).seq eX);have TU:=zH uM;have HN8:=zH UW
           clear KN MJ uM eX UW)
        | (go_at_call 74;refine KO.out.mono ?_;rintro e w9 ⟨rfl,uF⟩))
       go_roundw
       case rel=>
        refine⟨i+1,nx,A8,n8,c8,zO,by go_num,rfl,zH ?_,(show aY w9 (· <w9.heap.size) 1 aV nx A8 n8 from ((TU.out.Sv (F':=(· <w8.heap.size)) (λ_ h=>h.2)).below uF).Sv (λ_ h=>by have:=uF.size;omega)),Po.out,by have:=HBL.out;have:=HN8.out;omega,Ac.out.seq uF⟩;rw[VR.out,XZ.out];rfl
       case measure=>simp[intOf];omega
     ·obtain rfl:i=n:=by omega
      have jc:decide (i<i)=false:=(by simp);have hdr:ws.drop i=[]:=z14 (by rw[pR.out];exact zR _);rw[hdr] at VR;have auT:=Ip m w4.heap.size bm set A' n' c' wr _ hMr zO aI zO (λs hs=>((bZ s hs).ok jr.out).2);have WA:=zH auT;have nG:=zH aH;clear auT hMr PQ aI bZ wV aH
      go_wp2_with (go_at_call 59;refine WA.out.mono ?_;rintro e w9 ⟨rfl,uF⟩)
      refine bodyPost_ret (v:=.tuple #[.bool (qA m set),.int .i64 i,.int .i64 0]) (by simp[results,Tryz.results23,go_sem]) rfl ?_;refine⟨?_,nG.out.seq uF⟩;rw[VR.out];rfl
   ·rw[if_pos rfl] at hR
    subst hR;go_enter Tryz.func23,Tryz.ntmps23
    go_wp2_with (first
     | (go_at_call 13;refine uC.out.mono ?_
        rintro e w2 ⟨rfl,ag⟩
        have zA:=zH (nK.out.seq ag))
     | (go_at_call 48;refine (adV.out _ zA.out).mono ?_;rintro e w3 ⟨rfl,az⟩))
    refine bodyPost_ret (v:=.tuple #[.bool false,.int .i64 0,.int .i64 2]) (by simp[results,Tryz.results23,go_sem]) rfl ?_;exact⟨rfl,zA.out.seq az⟩
 ·rw[if_pos h0] at hR
  have jV:(E !=0)=true:=by simpa using h0
  have ER:decide (E≠0)=true:=by simpa using h0
  subst hR;go_enter Tryz.func23,Tryz.ntmps23
  go_wp2_with (go_at_call 13;refine uC.out.mono ?_;rintro e w2 ⟨rfl,ag⟩)
  refine bodyPost_ret (v:=.tuple #[.bool false,.int .i64 0,.int .i64 E]) (by simp[results,Tryz.results23,go_sem]) rfl ?_;exact⟨rfl,nK.out.seq ag⟩
end Go.Proofs.YtgmnnegfndpakaaGreatDoor
namespace Go.Proofs.YtgmnnegfndpakaaGreatDoor
open Go Go.RowKit
structure auU (ma mb:eQ) (K:Nat) (i:Nat) (t:mW):Prop where
 a:∀s∈t.a,jv ma s
 b:∀s∈t.b,jv mb s
 la:t.a.length<=4297
 lb:t.b.length<=4297
 from_:t.from_= -1\/∃f:Nat,t.from_=f/\f<i
 letter:t.letter<=K
def Ic(ma mb:eQ)(K:Nat)(ts:List mW):Prop:=∀i t,ts[i]?=some t->auU ma mb K i t
theorem Ic.start(ma mb:eQ)(K:Nat):Ic ma mb K [⟨[0],[0],-1,0⟩]:=λi t h=>by
 cases i with
 | zero=>
   obtain rfl:=zI h;exact⟨λs hs=>by rw[og] at hs;subst hs;exact jv.zero ma,λs hs=>by rw[og] at hs;subst hs;exact jv.zero mb,zP,zP,.inl rfl,Nat.zero_le _⟩
 | succ i=>simp at h
theorem Ic.snoc{ma mb:eQ}{K:Nat}{ts:List mW}(h:Ic ma mb K ts){t:mW}(ht:auU ma mb K ts.length t):Ic ma mb K (ts++[t]):=λi u hu=>by
 rw[List.getElem?_append] at hu
 split at hu
 ·exact h i u hu
 ·next hi=>
  have e:i - ts.length=0:=by
   have:=(List.getElem?_eq_some_iff.1 hu).1;simp at this;omega
  rw[e] at hu
  obtain rfl:t=u:=by simpa using hu
  have ei:i=ts.length:=by omega
  rw[ei];exact ht
theorem jv.agL{m:eQ}(fQ:mQ m){l:List Nat}(h:∀s∈l,jv m s):∀s∈l,s<65536:=λs hs=>by have:=(h s hs).lt;have:=EO fQ;omega
theorem aaJ{ba bb:Nat->List Nat}{k:Nat}{ts:List mW}(c:Nat):(List.range (c+1)).foldl (nH ba bb k) ts=nH ba bb k ((List.range c).foldl (nH ba bb k) ts) c:=by
 rw[List.range_succ,List.foldl_append];rfl
theorem ale{ba bb:Nat->List Nat}{k:Nat}{l:List mW}{c:Nat}(h:(decide (0<(bb c).length)&&!uZ (ba c) (bb c) l)=false):nH ba bb k l c=l:=by
 unfold nH;rw[if_neg];rintro⟨h1,h2⟩;rw[h2] at h;have:0<(bb c).length:=List.length_pos_iff.2 h1;simp[this] at h
theorem ah9{ba bb:Nat->List Nat}{k:Nat}{l:List mW}{c:Nat}(h:(decide (0<(bb c).length)&&!uZ (ba c) (bb c) l)=true):nH ba bb k l c=l++[⟨ba c,bb c,k,c⟩]:=by
 unfold nH;rw[z7,z18,Bool.not_eq_true'] at h;rw[if_pos ⟨List.ne_nil_of_length_pos h.1,h.2⟩]
theorem aia(ba bb:Nat->List Nat)(k:Nat)(l:List mW)(c:Nat):l.length<=(nH ba bb k l c).length/\(nH ba bb k l c).length<=l.length+1:=by
 unfold nH
 split
 ·rw[z5];simp
 ·exact⟨zR _,Nat.le_succ _⟩
theorem X5(ba bb:Nat->List Nat)(k:Nat)(l:List mW):∀c,l.length<=((List.range c).foldl (nH ba bb k) l).length/\((List.range c).foldl (nH ba bb k) l).length<=l.length+c
 | 0=>⟨zR _,zR _⟩
 | c+1=>by
   rw[aaJ];have h1:=X5 ba bb k l c;have h2:=aia ba bb k ((List.range c).foldl (nH ba bb k) l) c;omega
theorem aib{ba bb:List Nat->Nat->List Nat}{ea eb:List Nat->Bool}{st:Nat->Nm}{K f k:Nat}{l:List mW}(h:l.length<=k):inLoop ba bb ea eb st K f k l=(true,[],0):=by
 cases f with
 | zero=>rfl
 | succ f=>rw[inLoop,List.getElem?_eq_none_iff.2 h]
theorem afo{ba bb:List Nat->Nat->List Nat}{ea eb:List Nat->Bool}{st:Nat->Nm}{K f k:Nat}{l:List mW}{x:mW}(h:l[k]?=some x):inLoop ba bb ea eb st K (f+1) k l=if eb x.b&&!ea x.a then (false,yG l st (k+1) k,0)
 else if 20000<((List.range K).foldl (nH (ba x.a) (bb x.b) k) l).length then (false,[],3)
 else inLoop ba bb ea eb st K f (k+1) ((List.range K).foldl (nH (ba x.a) (bb x.b) k) l):=by
 rw[inLoop,h]
theorem alf{l:List mW}{st:Nat->Nm}{f i:Nat}{t:mW}(h:l[i]?=some t)(hf:t.from_<0):yG l st f i=[]:=by
 cases f with
 | zero=>rfl
 | succ f=>rw[yG,Int.toNat_natCast,h];exact if_pos hf
theorem alg{l:List mW}{st:Nat->Nm}{f i:Nat}{t:mW}(h:l[i]?=some t){j:Nat}(hf:t.from_=j):yG l st (f+1) i=yG l st f j++[st t.letter]:=by
 rw[yG,Int.toNat_natCast,h];show (if t.from_<0 then [] else yG l st f t.from_++[st t.letter])=_;rw[if_neg zO,hf]
theorem Ei.read{W:World}{base:Nat}{ns:List Jm}{v:Value}{ts:List mW}(h:Ei W base ns v ts){i:Nat}{t:mW}(ht:ts[i]?=some t):
 ∃b off c A1 c1 A2 c2,v= .slice (some ⟨b,off,none⟩) ts.length c/\W.cell? ⟨b,off+i*4,none⟩=some (.slice A1 t.a.length c1)/\W.cell? ⟨b,off+i*4+1,none⟩=some (.slice A2 t.b.length c2)/\W.cell? ⟨b,off+i*4+2,none⟩=some (.int .i64 t.from_)/\W.cell? ⟨b,off+i*4+3,none⟩=some (.int .i64 (t.letter:Int))/\
  (∀V,(Instr.indexAt 97 (.slice (some ⟨b,off,none⟩) ts.length c) (.int .i64 (i:Int))).run Tryz.prog V= .ok (.pointer (some ⟨b,off+i*4,none⟩)) V)/\
  ax W base 3 1 aV t.a (.slice A1 t.a.length c1)/\ax W base 3 1 aV t.b (.slice A2 t.b.length c2):=by
 obtain⟨A,c,ev,aI,-,-⟩:=h.own.row arI zD;have hi:i<ts.length:=(List.getElem?_eq_some_iff.1 ht).1;rw[h.len] at ev aI;obtain⟨b,off,x,rfl,hx,hc⟩:=aI.at_ hi;obtain⟨ha,hb,hf,hl⟩:=h.row i x t hx ht;obtain⟨A1,c1,e1⟩:=ha.form;obtain⟨A2,c2,e2⟩:=hb.form;rw[e1] at ha;rw[e2] at hb;unfold Gt at hc;rw[e1,e2,hf,hl] at hc;exact⟨b,off,c,A1,c1,A2,c2,ev,hc 0 _ rfl,hc 1 _ rfl,hc 2 _ rfl,hc 3 _ rfl,dN (P:=Tryz.prog) 97 96 4 Tryz.underlying97 (λw=>by kernel_rfl) rfl _ c i hi,ha,hb⟩
theorem OE{w:World}{p:Addr}{v:Value}{k:Nat}(h:k≠p.block):(w.setCell p v).heap[k]?=w.heap[k]?:=by
 rcases Nat.lt_or_ge k p.block with aN | jT
 ·exact((Below.refl (k+1) w).setCell (p:=p) zO v).block k zO
 ·unfold World.setCell
  simp[Array.getElem?_modify,Ne.symm h]
theorem ax.F5{W:World}{base:Nat}{l:List Nat}{A:Option Addr}{n c:Nat}(h:ax W base 3 1 aV l (.slice A n c)):n=l.length/\aY W (· <W.heap.size) 1 aV l A n:=by
 obtain⟨A',c',e,hr,-,-⟩:=h.row jd zD;obtain⟨rfl,rfl,rfl⟩:=z19 e;exact⟨rfl,hr.imp λ_ h=>h.2⟩
theorem ax.SH{W:World}{base g:Nat}{l:List Nat}{v:Value}(h:ax W base 3 1 aV l v){cs:Array Value}{t:TypeId}{fr:Nat×Nat}(hg:W.heap[g]?=some (.cells cs t fr))(ht:3≠t)(v0 v1 v2 v3:Value):ax ((((W.setCell ⟨g,0,none⟩ v0).setCell ⟨g,1,none⟩ v1).setCell ⟨g,2,none⟩ v2).setCell ⟨g,3,none⟩ v3) base 3 1 aV l v:=
 h.bu λq hq=>by
  obtain⟨cs',hc⟩:=h.bC hq;have dD:q≠g:=iP hc hg ht;rw[OE dD,OE dD,OE dD,OE dD]
theorem arJ{w:World}{base g:Nat}{n:Jm}(h:w.heap[g]?=some (.cells #[n.a.v,n.b.v,.int .i64 n.from_,.int .i64 n.letter] 96))(hb:base<=g):ax w base 96 4 Gt [n] (.slice (some ⟨g,0,none⟩) 1 1):=
 ⟨rfl,.inr ⟨g,1,_,rfl,hb,h,zR _,by unfold maxLen;omega,rfl,rfl⟩⟩
theorem Ei.start{w:World}{g base:Nat}(hg:base<=g)(hA:w.heap[g]?=some (.cells #[.int .i64 0] 3))(hB:w.heap[g+1]?=some (.cells #[.int .i64 0] 3))(hC:w.heap[g+1+1]?=some (.cells #[.slice (some ⟨g,0,none⟩) 1 1,.slice (some ⟨g+1,0,none⟩) 1 1,.int .i64 (-1),.int .i64 0] 96)):
 Ei w base [⟨⟨some ⟨g,0,none⟩,1,1⟩,⟨some ⟨g+1,0,none⟩,1,1⟩,-1,0⟩] (.slice (some ⟨g+1+1,0,none⟩) 1 1) [⟨[0],[0],-1,0⟩]:=by
 refine⟨arJ hC zO,rfl,λi n t hn ht=>?_⟩
 cases i with
 | zero=>
   obtain rfl:=zI hn;obtain rfl:=zI ht;exact⟨sQ (n:=0) hA hg,sQ (n:=0) hB zO,rfl,rfl⟩
 | succ i=>simp at hn
structure LpI (base g gx:Nat) (x:mW) (A1:Option Addr) (c1:Nat) (A2:Option Addr) (c2:Nat) (W:World) (ns:List Jm) (v:Value) (ts:List mW):Prop where
 nd:Ei W base ns v ts
 kp:Ak W g ts
 xa:ax W base 3 1 aV x.a (.slice A1 x.a.length c1)
 xb:ax W base 3 1 aV x.b (.slice A2 x.b.length c2)
 blk:W.heap[gx]?=some (.cells #[.slice A1 x.a.length c1,.slice A2 x.b.length c2,.int .i64 x.from_,.int .i64 (x.letter:Int)] 96)
 ne:∀k,v.ownBlock=some k->k≠gx
section
variable {base g gx:Nat} {x:mW} {A1:Option Addr} {c1:Nat} {A2:Option Addr} {c2:Nat} {W:World} {ns:List Jm} {v:Value} {ts:List mW}
theorem LpI.below{W':World}(h:LpI base g gx x A1 c1 A2 c2 W ns v ts)(hb:Bw W W'):LpI base g gx x A1 c1 A2 c2 W' ns v ts:=
 ⟨h.nd.below hb,h.kp.keep (hb.block g h.kp.lt),h.xa.keep hb,h.xb.keep hb,ae h.blk hb,h.ne⟩
theorem LpI.add(h:LpI base g gx x A1 c1 A2 c2 W ns v ts){t:mW}{n:Jm}(hta:∀s∈t.a,s<65536)(htb:∀s∈t.b,s<65536){L:List ((ByteArray×ByteArray)×Bool)}(hM:gQ W g FY bV L)
 (hL:∀a b:List Nat,(∀s∈a,s<65536)->(∀s∈b,s<65536)->dP Ai (fH a,fH b) L=if uZ a b ts=true then some true else none) {W1:World} (g1:gQ W1 g FY bV (jh Ai (fH t.a,fH t.b) true L)) (g2:∀b,b≠g->W1.heap[b]?=W.heap[b]?)
 {W2:World} (ag:Bw W1 W2) (ha:ax W base 3 1 aV t.a n.a.v) (hb:ax W base 3 1 aV t.b n.b.v) (hf:n.from_=t.from_) (hl:n.letter=(t.letter:Int)) {W3:World} {v':Value} (ho:ax W3 base 96 4 Gt (ns++[n]) v') (hg:W2.grownBy W3 v.ownBlock)
 (jA:v'.ownBlock=v.ownBlock\/v'.ownBlock=some W2.heap.size):LpI base g gx x A1 c1 A2 c2 W3 (ns++[n]) v' (ts++[t]):=by
 have BB:∀{q:Nat} {cs:Array Value} {ty:TypeId} {fr:Nat×Nat},W.heap[q]?=some (.cells cs ty fr)->q≠g:=λ{q cs ty fr} hc e=>by
  have h2:W.heap[g]?=some (Ag FY bV L):=hM;rw[e,h2] at hc;cases hc
 have k1:∀{e:TypeId} {α:Type} {cells:α->List Value} {sz:Nat} {l:List α} {u:Value},ax W base e sz cells l u->ax W1 base e sz cells l u:=λ{e α cells sz l u} hu=>hu.bu λq hq=>by
  obtain⟨cs,hc⟩:=hu.bC hq;exact g2 q (BB hc)
 have RN:Ei W1 base ns v ts:=h.nd.keep λq cs ty _ hc=>g2 q (BB hc);have RP:=RN.below ag;have nd3:=RP.add ((k1 ha).keep ag) ((k1 hb).keep ag) hf hl ho hg
 have k3:∀{l:List Nat} {u:Value},ax W2 base 3 1 aV l u->ax W3 base 3 1 aV l u:=λ{l u} hu=>hu.bu λq hq=>hg.block q (hu.block_lt hq).2 λe=>by
  obtain⟨cs,hc⟩:=hu.bC hq;obtain⟨cs',yu⟩:=RP.own.bC e.symm;exact iP hc yu zD rfl
 have Cb:W2.heap[gx]?=some (.cells #[.slice A1 x.a.length c1,.slice A2 x.b.length c2,.int .i64 x.from_,.int .i64 (x.letter:Int)] 96):=ae ((g2 gx (BB h.blk)).trans h.blk) ag;refine⟨nd3,⟨_,g1.keep ?_,aaG hL hta htb⟩,k3 ((k1 h.xa).keep ag),k3 ((k1 h.xb).keep ag),?_,λk hk=>?_⟩
 ·rw[hg.block g (Nat.lt_of_lt_of_le g1.lt ag.size) (λe=>?_),ag.block g g1.lt]
  obtain⟨cs',yu⟩:=RN.own.bC e.symm;have h2:W1.heap[g]?=some (Ag FY bV _):=g1;rw[h2] at yu;cases yu
 ·rw[hg.block gx (aC Cb) (λe=>h.ne gx e.symm rfl)]
  exact Cb
 ·rcases jA with e | e
  ·exact h.ne k (e.symm.trans hk)
  ·rw[e] at hk
   obtain rfl:=zI hk;have:=aC Cb;omega
end
theorem OG{w:World}{g:Nat}{t:TypeId}{u0 u1:Value}(h:w.heap[g]?=some (.cells #[u0,u1] t))(v0 v1:Value):((w.setCell ⟨g,0,none⟩ v0).setCell ⟨g,1,none⟩ v1).heap[g]?=some (.cells #[v0,v1] t):=by
 have h1:=dM (i:=1) (v:=v1) (dM (i:=0) (v:=v0) h);simpa using h1
theorem Ie{B:Nat}{w0 w:World}{g:Nat}(h:Below B w0 w)(hg:B<=g)(v0 v1:Value):Below B w0 ((w.setCell ⟨g,0,none⟩ v0).setCell ⟨g,1,none⟩ v1):=
 (h.setCell (p:=⟨g,0,none⟩) hg v0).setCell (p:=⟨g,1,none⟩) hg v1
end Go.Proofs.YtgmnnegfndpakaaGreatDoor
namespace Go.Proofs.YtgmnnegfndpakaaGreatDoor
open Go.RowKit
theorem UX{tk:Nat->Bool}{n:Nat}(h:∃i,i<=n/\tk i=false):tk (AZ tk n)=false/\(∀i,i<AZ tk n->tk i=true)/\AZ tk n<=n:=by
 unfold AZ
 cases hf:(List.range (n+1)).find? λk=>!tk k with
 | none=>
   rw[List.find?_eq_none] at hf;obtain⟨i,h1,h2⟩:=h;have:=hf i (List.mem_range.2 zO);rw[h2] at this;simp at this
 | some I=>
   rw[List.find?_range_eq_some] at hf;obtain⟨h1,h2,h3⟩:=hf;rw[Option.getD_some];exact⟨by simpa using h1,λi hi=>by simpa using h3 i hi,by have:=List.mem_range.1 h2;omega⟩
theorem afp(l:List Nm)(s:ByteArray):∃i,i<=l.length/\ru l s (dL xB i)=false:=by
 obtain⟨i,h1,h2⟩:=EU (λi=>(s,dL xB i)) (λi j h=>Nu (Prod.mk.inj h).2) l;refine⟨i,h1,?_⟩
 cases h:ru l s (dL xB i) with
 | false=>rfl
 | true=>exact absurd ((Nr _ _ _).1 h) h2
theorem afq(l:List ByteArray):∃i,i<=l.length/\(l.any λx=>eqS (dL EN i) x)=false:=by
 obtain⟨i,h1,h2⟩:=EU (λi=>dL EN i) (λi j h=>Nu h) l;refine⟨i,h1,?_⟩
 cases h:l.any λx=>eqS (dL EN i) x with
 | false=>rfl
 | true=>
   rw[List.any_eq_true] at h;obtain⟨x,hx,he⟩:=h;exact absurd (iV.1 he ▸ hx) h2
theorem aCk(l:List Nm)(a b:ByteArray):l.any (eqN (a,b))=ru l a b:=by
 rw[Bool.eq_iff_iff,List.any_eq_true,Nr];constructor
 ·rintro⟨x,hx,he⟩
  rw[(jM _ _).1 he];exact hx
 ·exact λh=>⟨_,h,(jM _ _).2 rfl⟩
theorem anQ{a:zZ}{x:Nat}{n:Nm}(h:a.names[x]?=some n):iJ a x=n:=by unfold iJ;rw[h]
theorem anR{a:zZ}{y:Nat}{s:ByteArray}(h:a.spaces[y]?=some s):iJ a (a.names.length+y)=(s,dL xB (AZ (λk=>ru a.names s (dL xB k)) a.names.length)):=by
 unfold iJ;rw[List.getElem?_eq_none zO,show a.names.length+y - a.names.length=y by omega,h];simp only[aCk]
theorem anS{a:zZ}{x:Nat}(h:a.names.length+a.spaces.length<=x):iJ a x=(dL EN (AZ (λk=>a.spaces.any λz=>eqS (dL EN k) z) a.spaces.length),xB):=by
 unfold iJ;rw[List.getElem?_eq_none zO,List.getElem?_eq_none zO]
theorem aie(a:zZ)(x:Nat)(ba:Nat)(nA:Option Addr)(nn nc:Nat)(sA:Option Addr)(sn sc:Nat)(w:World)(h:yH w ba a nA nn nc sA sn sc)(hx:nn+sn<=x)(hxb:x<1000000000):
 Rt 60 #[.pointer (some ⟨ba,0,none⟩),.int .i64 (x:Int)] w (.agg #[.string (iJ a x).1,.string (iJ a x).2]):=by
 obtain⟨w1,bI,S1,S2,nC,ai⟩:=ed w (.cells #[.pointer (some ⟨ba,0,none⟩)] 91) (.cells #[.string ⟨#[]⟩,.string ⟨#[]⟩] 23);have HA:=zH (h.below ai);have hP:=UX (afq a.spaces);obtain⟨I,hI⟩:=zF (AZ (λk=>a.spaces.any λz=>eqS (dL EN k) z) a.spaces.length);have bZ:=anS (a:=a) (x:=x) (by have:=h.2.1.1;have:=h.2.2.1.1;omega);rw[hI] at hP bZ
 have hIb:I<1000000:=by have:=hP.2.2;have:=h.2.2.1.1;have:=h.2.2.2.2;omega
 have lV:=S1;have HF:=zH (ad1 w.heap.size EN (λk=>a.spaces.any λz=>eqS (dL EN k) z) I ⟨hP.1,hP.2.1⟩ hIb zD w1 λk _ W hb=>aic a (dL EN k) ba w.heap.size nA nn nc sA sn sc W ((h.below ai).below hb) (ae lV hb));have sV:=zH bZ;have c0:=aO S1;have d0:=dw HA.out.1;have gY:=zH S2;have yB:=h.2.2.2.1;have qY:=h.2.2.2.2
 have gJ:decide (x<nn)=false:=by simp;omega
 have jc:decide ((x:Int) - (nn:Int)<(sn:Int))=false:=by simp;omega
 clear h bZ hP lV S1 S2 hI;go_enter Tryz.func60,Tryz.ntmps60;go_wp2_with fail;refine HF.out.mono ?_;rintro e w2 ⟨rfl,ag⟩;have S3:=ae gY.out ag;have f0:=frozen_of_row w2 (w.heap.size+1) 0 _ _ S3;have f1:=frozen_of_row w2 (w.heap.size+1) 1 _ _ S3;have e0:=dw S3;have vC:=zH S3;clear S3;go_wp2_with fail;have SF:=Fb (v:=.string ⟨#[120]⟩) (Fa (v:=.string (dL EN I)) vC.out);obtain⟨z0,z1⟩:=dw SF;clear SF;refine bodyPost_ret (v:=.agg #[.string (dL EN I),.string ⟨#[120]⟩]) (by simp[results,Tryz.results60,go_sem,z0,z1]) rfl ?_;exact⟨by rw[sV.out];rfl,((ai.seq ag).setCell (p:=⟨w.heap.size+1,0,none⟩) (Nat.le_add_right _ _) _).setCell (p:=⟨w.heap.size+1,1,none⟩) (Nat.le_add_right _ _) _⟩
theorem afr(a:zZ)(x:Nat)(ba:Nat)(nA:Option Addr)(nn nc:Nat)(sA:Option Addr)(sn sc:Nat)(w:World)(h:yH w ba a nA nn nc sA sn sc)(hx:x<nn):
 Rt 60 #[.pointer (some ⟨ba,0,none⟩),.int .i64 (x:Int)] w (.agg #[.string (iJ a x).1,.string (iJ a x).2]):=by
 obtain⟨w1,bI,S1,S2,nC,ai⟩:=ed w (.cells #[.pointer (some ⟨ba,0,none⟩)] 91) (.cells #[.string ⟨#[]⟩,.string ⟨#[]⟩] 23);have HA:=zH (h.below ai);obtain⟨b',off,x1,x2,HX,p0,p1,dO⟩:=HA.out.2.1.name hx nc;have sV:=zH (anQ HX.out);have c0:=aO S1;have d0:=dw HA.out.1;have gY:=zH S2;have yB:=h.2.2.2.1
 have gJ:decide (x<nn)=true:=by simp;omega
 have f0:=frozen_of_row w1 (w.heap.size+1) 0 _ _ S2;have f1:=frozen_of_row w1 (w.heap.size+1) 1 _ _ S2;have e0:=dw S2;clear h S1 S2;go_enter Tryz.func60,Tryz.ntmps60;go_wp2_with fail;have SF:=Fb (v:=.string x2) (Fa (v:=.string x1) gY.out);obtain⟨z0,z1⟩:=dw SF;clear SF;refine bodyPost_ret (v:=.agg #[.string x1,.string x2]) (by simp[results,Tryz.results60,go_sem,z0,z1]) rfl ?_;exact⟨by rw[sV.out],(ai.setCell (p:=⟨w.heap.size+1,0,none⟩) (Nat.le_add_right _ _) _).setCell (p:=⟨w.heap.size+1,1,none⟩) (Nat.le_add_right _ _) _⟩
theorem ali(a:zZ)(y:Nat)(ba:Nat)(nA:Option Addr)(nn nc:Nat)(sA:Option Addr)(sn sc:Nat)(w:World)(h:yH w ba a nA nn nc sA sn sc)(hy:y<sn):
 Rt 60 #[.pointer (some ⟨ba,0,none⟩),.int .i64 ((nn:Int)+(y:Int))] w (.agg #[.string (iJ a (nn+y)).1,.string (iJ a (nn+y)).2]):=by
 obtain⟨w1,bI,S1,S2,nC,ai⟩:=ed w (.cells #[.pointer (some ⟨ba,0,none⟩)] 91) (.cells #[.string ⟨#[]⟩,.string ⟨#[]⟩] 23);have HA:=zH (h.below ai);obtain⟨b',off,s,HX,p0,dO⟩:=HA.out.2.2.1.str hy sc;obtain⟨w2,mJ,S3,uS,ag⟩:=af w1 (.cells #[.string s] 9);have qZ:=zH (HA.out.below ag);have hP:=UX (afp a.names s);obtain⟨I,hI⟩:=zF (AZ (λk=>ru a.names s (dL xB k)) a.names.length);have bZ:=anR (a:=a) HX.out;have hnl:nn=a.names.length:=h.2.1.1;rw[hI] at hP bZ;rw[<-hnl] at bZ
 have hIb:I<1000000:=by have:=hP.2.2;have:=h.2.2.2.1;omega
 have lV:=ae S1 ag;have qo:=S3;have HF:=zH (λ(W:World) (mV:Bw w2 W)=>adZ w.heap.size w1.heap.size xB (λk=>ru a.names s (dL xB k)) I ⟨hP.1,hP.2.1⟩ hIb zD W λk _ W' hb=>aid a s (dL xB k) ba w.heap.size w1.heap.size nA nn nc sA sn sc W' ((qZ.out.below mV).below hb) (ae (ae lV mV) hb) (ae (ae qo mV) hb));have sV:=zH bZ;have c0:=aO S1;have LW:=aO lV;have c5:=aO qo;have d0:=dw HA.out.1;have gY:=zH (ae S2 ag);have yB:=h.2.2.2.1;have qY:=h.2.2.2.2
 have gJ:decide ((nn:Int)+(y:Int)<(nn:Int))=false:=by simp;omega
 have jc:decide ((nn:Int)+(y:Int) - (nn:Int)<(sn:Int))=true:=by simp;omega
 have auz:∀W,(Instr.indexAt 47 (.slice sA sn sc) (.int .i64 ((nn:Int)+(y:Int) - (nn:Int)))).run Tryz.prog W= .ok (.pointer (some ⟨b',off+y,none⟩)) W:=λW=>by rw[show (nn:Int)+(y:Int) - (nn:Int)=(y:Int) by omega];exact dO W
 clear h bZ hP lV qo S1 S2 S3 hI hnl;go_enter Tryz.func60,Tryz.ntmps60;go_wp2_with fail
 go_region_with
  (first | (go_at_call 127;refine (HF.out _ (by first | exact Below.refl _ _ | exact(Below.refl _ _).drewN _ | exact(Below.refl _ _).drew)).mono ?_
            rintro e w3 ⟨rfl,az⟩;have BD:Bw w2 w3:=⟨az.os,az.tape,az.output,az.size,az.block⟩;have S3:=ae gY.out BD;have f0:=frozen_of_row w3 (w.heap.size+1) 0 _ _ S3;have f1:=frozen_of_row w3 (w.heap.size+1) 1 _ _ S3;have e0:=dw S3;have c6:w3.cell? ⟨w1.heap.size,0,none⟩=some (.string s):=(BD.cell (World.block_lt_of_cell? w2 _ c5)).trans c5;have vC:=zH S3;have anT:=zH BD
            clear S3 BD))
 all_goals
  go_wp2_with fail;have SF:=Fb (v:=.string (dL xB I)) (Fa (v:=.string s) vC.out);obtain⟨z0,z1⟩:=dw SF;clear SF;refine bodyPost_ret (v:=.agg #[.string s,.string (dL xB I)]) (by simp[results,Tryz.results60,go_sem,z0,z1]) rfl ?_;have dY:Bw w w3:=(ai.seq ag).seq anT.out;exact⟨by rw[sV.out],(dY.setCell (p:=⟨w.heap.size+1,0,none⟩) (Nat.le_add_right _ _) _).setCell (p:=⟨w.heap.size+1,1,none⟩) (Nat.le_add_right _ _) _⟩
theorem SI(a:zZ)(x:Nat)(ba:Nat)(nA:Option Addr)(nn nc:Nat)(sA:Option Addr)(sn sc:Nat)(w:World)(h:yH w ba a nA nn nc sA sn sc)(hxb:x<1000000000):
 Rt 60 #[.pointer (some ⟨ba,0,none⟩),.int .i64 (x:Int)] w (.agg #[.string (iJ a x).1,.string (iJ a x).2]):=by
 by_cases h1:x<nn
 ·exact afr a x ba nA nn nc sA sn sc w h h1
 ·by_cases h2:x<nn+sn
  ·obtain⟨y,rfl⟩:∃y,x=nn+y:=⟨x - nn,zO⟩
   exact(show ((nn+y:Nat):Int)=(nn:Int)+(y:Int) by omega) ▸ ali a y ba nA nn nc sA sn sc w h zO
  ·exact aie a x ba nA nn nc sA sn sc w h zO hxb
end Go.Proofs.YtgmnnegfndpakaaGreatDoor
namespace Go.Proofs.YtgmnnegfndpakaaGreatDoor
open Go Go.RowKit
theorem aen{x:List Nat}:∀{l:List (List Nat)} {i k:Nat},qR x l i=some k->∃j,k=i+j/\l[j]?=some x
 | [],i,k,h=>by simp[qR] at h
 | y::l,i,k,h=>by
   rw[qR] at h
   split at h
   ·rename_i he
    obtain rfl:=zI h;exact⟨0,rfl,by rw[he];rfl⟩
   ·obtain⟨j,h1,h2⟩:=aen h
    exact⟨j+1,zO,h2⟩
theorem aaQ{x:List Nat}:∀{l:List (List Nat)} {i:Nat},qR x l i=none->x ∉ l
 | [],i,_=>by simp
 | y::l,i,h=>by
   rw[qR] at h
   split at h
   ·cases h
   ·rename_i he
    rw[z15,not_or];exact⟨λe=>he e.symm,aaQ h⟩
def MP(nx:List Nat)(sets:List (List Nat))(v:Int):Prop:=(nx=[]/\v= -1)\/(nx≠[]/\∃j:Nat,sets[j]?=some nx/\v=(j:Int))
theorem MP.up{nx:List Nat}{sets more:List (List Nat)}{v:Int}(h:MP nx sets v):MP nx (sets++more) v:=by
 rcases h with h | ⟨h0,j,h1,h2⟩
 ·exact .inl h
 ·exact .inr ⟨h0,j,by rw[z20 (List.getElem?_eq_some_iff.1 h1).1];exact h1,h2⟩
theorem aaR{nx:List Nat}{sets:List (List Nat)}{r:List (List Nat)×Int}(h:tN nx sets=some r):(∃more,r.1=sets++more/\(more=[]\/(more=[nx]/\nx≠[]/\nx ∉ sets/\sets.length<1000)))/\MP nx r.1 r.2:=by
 unfold tN at h
 split at h
 ·rename_i h0
  obtain rfl:=zI h;exact⟨⟨[],zP,.inl rfl⟩,.inl ⟨h0,rfl⟩⟩
 ·rename_i h0
  split at h
  ·rename_i i hi
   obtain rfl:=zI h;obtain⟨j,h1,h2⟩:=aen hi;exact⟨⟨[],zP,.inl rfl⟩,.inr ⟨h0,i,by rw[show i=j by omega];exact h2,rfl⟩⟩
  ·rename_i hn
   split at h
   ·cases h
   ·rename_i hl
    obtain rfl:=zI h;exact⟨⟨[nx],rfl,.inr ⟨rfl,h0,aaQ hn,zO⟩⟩,.inr ⟨h0,sets.length,zP,rfl⟩⟩
structure Grown (P:List Nat->Prop) (sets lS:List (List Nat)):Prop where
 pre:∃more,lS=sets++more/\∀s∈more,s≠[]/\P s
 nd:sets.Nodup->lS.Nodup
 len:sets.length<=1000->lS.length<=1000
theorem Grown.refl(P:List Nat->Prop)(sets:List (List Nat)):Grown P sets sets:=⟨⟨[],zP,zP⟩,id,id⟩
theorem Grown.trans{P:List Nat->Prop}{a b c:List (List Nat)}(h:Grown P a b)(k:Grown P b c):Grown P a c:=by
 obtain⟨m1,h1,h2⟩:=h.pre;obtain⟨m2,k1,k2⟩:=k.pre;refine⟨⟨m1++m2,by rw[k1,h1,List.append_assoc],λs hs=>?_⟩,λhn=>k.nd (h.nd hn),λhl=>k.len (h.len hl)⟩
 rcases List.mem_append.1 hs with hs | hs
 ·exact h2 s hs
 ·exact k2 s hs
theorem aeo{P:List Nat->Prop}{nx:List Nat}(hP:P nx){sets:List (List Nat)}{r:List (List Nat)×Int}(h:tN nx sets=some r):Grown P sets r.1:=by
 obtain⟨⟨more,h1,h2⟩,-⟩:=aaR h
 rcases h2 with rfl | ⟨rfl,h3,h4,h5⟩
 ·rw[List.append_nil] at h1;rw[h1];exact Grown.refl _ _
 ·refine⟨⟨[nx],h1,λs hs=>by rw[og] at hs;subst hs;exact⟨h3,hP⟩⟩,λhn=>?_,λhl=>by rw[h1];simp;omega⟩
  rw[h1];exact List.nodup_append.2 ⟨hn,zP,λa ha b hb e=>h4 (by rw[og] at hb;rw[<-hb,<-e];exact ha)⟩
theorem VX{P:List Nat->Prop}{jD:Nat->List Nat}(hP:∀x,P (jD x)):∀(xs:List Nat) (sets:List (List Nat)) (row:List Int) (r:List (List Nat)×List Int),mkRow jD xs sets row=some r->
 Grown P sets r.1/\∃new:List Int,r.2=row++new/\new.length=xs.length/\∀(i x:Nat),xs[i]?=some x->∃v,new[i]?=some v/\MP (jD x) r.1 v
 | [],sets,row,r,h=>by
   rw[mkRow] at h;obtain rfl:=zI h;exact⟨Grown.refl _ _,[],zP,rfl,λi x hx=>by simp at hx⟩
 | x::xs,sets,row,r,h=>by
   rw[mkRow] at h
   split at h
   ·cases h
   ·rename_i c hc
    obtain⟨h1,new,h2,h3,h4⟩:=VX hP xs c.1 _ r h;refine⟨(aeo (hP x) hc).trans h1,c.2::new,by rw[h2,List.append_assoc];rfl,by simp[h3],λi y hy=>?_⟩
    cases i with
    | zero=>
      obtain rfl:x=y:=(by simpa using hy);obtain⟨more,hm,-⟩:=h1.pre;exact⟨c.2,rfl,by rw[hm];exact(aaR hc).2.up⟩
    | succ i=>exact h4 i y (by simpa using hy)
structure OO (jD:List Nat->Nat->List Nat) (K:Nat) (sets:List (List Nat)) (rows:List (List Int)):Prop where
 row:∀(k:Nat) (r:List Int),rows[k]?=some r->r.length=K/\∃s,sets[k]?=some s/\∀x,x<K->∃v,r[x]?=some v/\MP (jD s x) sets v
theorem aaS{P:List Nat->Prop}{jD:List Nat->Nat->List Nat}(hP:∀s x,P (jD s x)){K:Nat}:∀(f k:Nat) (sets:List (List Nat)) (rows:List (List Int)) (r:List (List Nat)×List (List Int)),k=rows.length->OO jD K sets rows->sets.length<=1000->1000<f+k->oU jD K f k sets rows=some r->
 Grown P sets r.1/\OO jD K r.1 r.2/\r.2.length=r.1.length\/r.1.length<rows.length
 | 0,k,sets,rows,r,hk,ht,hl,hf,h=>by
   rw[oU] at h;obtain rfl:=zI h;exact .inr (by show sets.length<rows.length;omega)
 | f+1,k,sets,rows,r,hk,ht,hl,hf,h=>by
   rw[oU] at h
   cases hs:sets[k]? with
   | none=>
     rw[hs] at h;obtain rfl:=zI h;rw[z22] at hs;by_cases he:rows.length=sets.length
     ·exact .inl ⟨Grown.refl _ _,ht,he⟩
     ·exact .inr (by show sets.length<rows.length;omega)
   | some s=>
     rw[hs] at h;dsimp only at h
     cases hr:mkRow (jD s) (List.range K) sets [] with
     | none=>rw[hr] at h;cases h
     | some c=>
       rw[hr] at h;dsimp only at h;obtain⟨hg,new,h2,h3,h4⟩:=VX (P:=P) (hP s) _ _ _ _ hr;rw[List.nil_append] at h2;obtain⟨more,hm,-⟩:=hg.pre
       have E8:OO jD K c.1 (rows++[c.2]):=⟨λj r' hj=>by
        rw[List.getElem?_append] at hj;by_cases hjl:j<rows.length
        ·rw[if_pos hjl] at hj
         obtain⟨a1,s',a2,a3⟩:=ht.row j r' hj;refine⟨a1,s',by rw[hm,z20 (List.getElem?_eq_some_iff.1 a2).1];exact a2,λx hx=>?_⟩;obtain⟨v,b1,b2⟩:=a3 x hx;exact⟨v,b1,by rw[hm];exact b2.up⟩
        ·rw[if_neg hjl] at hj
         have e1:j - rows.length=0:=by
          have:=(List.getElem?_eq_some_iff.1 hj).1;simp at this;omega
         rw[e1] at hj;obtain rfl:c.2=r':=(by simpa using hj);refine⟨by rw[h2,h3,List.length_range],s,?_,λx hx=>?_⟩
         ·rw[show j=k by omega,hm,z20 (List.getElem?_eq_some_iff.1 hs).1];exact hs
         ·obtain⟨v,b1,b2⟩:=h4 x x (by rw[List.getElem?_range hx])
          exact⟨v,by rw[h2];exact b1,b2⟩⟩
       rcases aaS hP f (k+1) c.1 (rows++[c.2]) r (by simp;omega) E8 (hg.len hl) zO h with ⟨a1,a2,a3⟩ | a1
       ·exact .inl ⟨hg.trans a1,a2,a3⟩
       ·exfalso
        have fM:=(List.getElem?_eq_some_iff.1 hs).1
        have zV:∀(f k:Nat) (sets:List (List Nat)) (rows:List (List Int)) (r:List (List Nat)×List (List Int)),oU jD K f k sets rows=some r->sets.length<=r.1.length:=by
         intro f
         induction f with
         | zero=>intro k sets rows r h;rw[oU] at h;obtain rfl:=zI h;exact zR _
         | succ f ih=>
           intro k sets rows r h;rw[oU] at h
           split at h
           ·obtain rfl:=zI h;exact zR _
           ·split at h
            ·cases h
            ·rename_i c' yu
             have h1:=ih _ _ _ _ h;obtain⟨FK,-⟩:=VX (P:=P) (hP _) _ _ _ _ yu;obtain⟨m',O3,-⟩:=FK.pre;rw[O3] at h1;rw[z5] at h1;omega
        have h5:=zV _ _ _ _ _ h;rw[hm,z5] at h5;rw[z5,z16] at a1;omega
theorem aiu{P:List Nat->Prop}{jD:List Nat->Nat->List Nat}(hP:∀s x,P (jD s x)){K:Nat}{r:List (List Nat)×List (List Int)}(h:oU jD K 1001 0 [[0]] []=some r):
 Grown P [[0]] r.1/\OO jD K r.1 r.2/\r.2.length=r.1.length:=by
 rcases aaS hP 1001 0 [[0]] [] r rfl ⟨λk r h=>by simp at h⟩ zP zO h with h1 | h1
 ·exact h1
 ·simp at h1
theorem aaT(mark:List Nat->Bool):∀(l:List (List Nat)) (i:Nat) (n:Int),(wR mark l i n).length=l.length
 | [],_,_=>rfl
 | s::l,i,n=>by
   rw[wR]
   split<;>simp[aaT mark l]
def LJ(nums:List Int)(t:Int):Int:=if 0<=t then (nums[t.toNat]?).getD 0 else t
section
variable {mark fin:List Nat->Bool} {jD:List Nat->Nat->List Nat} {K:Nat} {sets:List (List Nat)} {rows:List (List Int)} {a:zZ}
end
end Go.Proofs.YtgmnnegfndpakaaGreatDoor
