import Derived.Test.YtgmnnegfndpakaaGreatDoorH08
import Derived.Test.YtgmnnegfndpakaaGreatDoorH18
import Derived.Test.YtgmnnegfndpakaaGreatDoorCards
import Derived.Test.YtgmnnegfndpakaaGreatDoorTie
import Derived.Lib.LaidTab
set_option maxHeartbeats 20000000
set_option maxRecDepth 100000
namespace Go.Proofs.YtgmnnegfndpakaaGreatDoor
open Go.RowKit Go.Proofs.Tryz
variable{w w' W:World}{P:Program}{H:Type}
section
open Go.Shelf
attribute [local go_sem] Oper.semAt_some
def Tab(w:World):Prop:=Lib.TabIs prog w "internal/strconv.uint64pow10" .u64 Lib.pow10Tab
theorem gTab:prog.globalNamed "internal/strconv.uint64pow10" =some 1:=by kernel_rfl
theorem Tab.keep(h:Tab w)(hb:w'.heap[1]?=w.heap[1]?):Tab w':=by
 unfold Tab Lib.TabIs World.var? at*;rw[gTab] at h ⊢;simp only[Option.bind_some] at h ⊢;rw[hb];exact h
theorem Tab.lt(h:Tab w):1<w.heap.size:=by
 unfold Tab Lib.TabIs World.var? at h;rw[gTab] at h;simp only[Option.bind_some] at h
 rcases i8 1 w.heap.size with hl | hl
 ·exact hl
 rw[Array.getElem?_eq_none hl] at h;cases h
theorem Tab.below(h:Tab w)(hb:Bw w w'):Tab w':=h.keep (hb.block 1 h.lt)
theorem Rw(a:ByteArray):dL a 0=a:=by
 unfold dL pG;rw[j6 rfl];apply ByteArray.ext;rw[ByteArray.data_append];simp
theorem amW(i:Nat)(h1:1<=i)(hi:i<1000000000)(w:World)(hT:Tab w):
 Rt 255 #[i] w (.string ⟨(pG i).toArray⟩):=by
 refine (Tryz.strconv_Itoa i zO zO w hT).mono ?_;rintro e w' ⟨rfl,k,os,rfl⟩;refine⟨?_,Go.Lib.below_grow _ w (zR _) k os⟩
 have:Lib.itoa (i:Int)=pG i:=by
  unfold Lib.itoa pG;rw[j5 zO,j5 zO];simp
 rw[this]
theorem Rx(a:ByteArray)(w:World):
 Cl 248 #[a] w λe w'=>e= .returned (.func (.func 254) #[] #[(w,0)])/\w'.heap[w.heap.size]?=Zc #[a] 9/\Bw w w':=by
 go_enter func248,ntmps248;go_wp2;go_ret;exact⟨rfl,heap_alloc_new _ _,(j9 _ _).alloc (zR _) _⟩
theorem Ry(n:Nat):(pG n).length<=n:=by
 induction n using Nat.strongRecOn with
 | _ n ih=>
   rcases Nat.eq_zero_or_pos n with h | h
   ·subst h;simp[pG]
   rw[Ho h,z5,TQ];have:=ih (n / 10) zO;omega
theorem Hy{e:Ending}{A C:Prop}(h:(e= .returned true/\A)\/(e= .returned false/\C)):∃v:Bool,e= .returned v/\Hid (v=true->A)/\Hid (v=false->C):=by
 rcases h with ⟨h,a⟩ | ⟨h,c⟩
 ·exact⟨true,h,zH (λ_=>a),zH (λh=>by cases h)⟩
 exact⟨false,h,zH (λh=>by cases h),zH (λ_=>c)⟩
def zg(a:ByteArray)(k:Nat):List ByteArray:=(List.range k).map (dL a)
theorem xM(a:ByteArray)(k:Nat):zg a (k+1)=zg a k++[dL a k]:=by
 unfold zg;rw[List.range_succ,Qb];rfl
theorem Hz(a:ByteArray)(k:Nat):(zg a k).length=k:=by unfold zg;simp
theorem acR(a:ByteArray)(bl N:Nat)(X:Nat->Prop)(w0:World)(jA:w0.heap[bl]?=Zc #[a] 9)(hT:Tab w0)(hXb:¬X bl)(hXt:¬X 1)(hN:N<100000000)(ha:a.size<1000000):
 aps prog 254 #[(bl,0)] (λs:ByteArray=>#[s]) X (λ_=>False) (λpre=>pre=zg a pre.length) (λpre=>pre.length<N) w0:=by
 intro n l J Jx W hk hB h1 h0 hY hJ;obtain⟨HB,H1,HY⟩:=zJ3 hB h1 hY;clear hB h1 hY;have S0:=bF jA hk hXb;obtain⟨HT,aN,c0,Jc⟩:=zK4 (zH (hT.keep (hk.block 1 hT.lt hXt))) (aC S0) (aO S0) (zH S0);clear S0;have hz:=Rw a;refine callsIn_of_wp func254 rfl trivial ?_ rfl;simp only[ntmps254,YV,z9,z24,Nat.reduceAdd,Nat.reduceSub,Ze,Zd,List.push_toArray,ZD,d6,m7];obtain⟨f1,t1,a1,b1,AQ,hR1⟩:=HY (n - 1) W [] (dL a 0) W hJ (by simp[zg]) (zR _) (zR _);rw[hz] at AQ;dsimp only at AQ;have HZ:=zH hz;clear hz hk;gi_wp2;refine⟨(λh=>by cases h),hR1.mono ?_⟩;rintro e W1 (⟨rfl,hJ1,eu⟩ | ⟨rfl,Cb⟩)
 ·clear hR1 AQ c0;gi_wp2
  gi_loopw [3] (λs3 wr=>∃i hi:Nat,s3= i/\1<=i/\i<N/\J hi (zg a i) wr/\W<=hi/\hi<=wr/\Kept (λk=>(k<W/\X k)\/W<=k) W wr)
   (λs3 _=>N - (intOf s3).toNat)
  case atStart=>exact⟨1,W,rfl,zO,by have:=HB _ _ _ hJ1;simpa using this,by rw[xM];exact hJ1,zR _,eu.size,eu⟩
  obtain⟨i,hi,rfl,hi1,hiN,zh,o8,yx,eF⟩:=hrel;have S0:=bF Jc eF (by rintro (⟨_,h⟩ | h);exact hXb h;omega);have c0:=aO S0;have HTr:=zH (HT.keep (eF.block 1 HT.lt (by rintro (⟨_,h⟩ | h);exact hXt h;exact absurd HT.lt zO)));have l9:prog.follows .mixedOrders=true:=zS2;have HSr:=zH S0;have hL:decide (9223372036854775807<a.size+(pG i).length)=false:=(by have:=Ry i;simp;omega);have gX:(a++⟨(pG i).toArray⟩:ByteArray)=dL a i:=rfl;have oG:=zH gX;clear gX;clear S0;gi_wp2;have hL2:¬(9223372036854775807<a.size+(pG i).length):=(by have:=Ry i;omega);have hL3:a.size+(pG i).length<=9223372036854775807:=zO;have hL4:decide ((9223372036854775807:Int)<(a.size:Int)+((pG i).length:Int))=false:=zS1
  gi_region_with_o (first
   | (refine⟨trivial,(λh=>by cases h),?_⟩;gi_at_call 255;refine (t6.2 (amW i hi1 zO wr.drew (show Tab wr.drew from HTr))).mono ?_;rintro e w2 ⟨rfl,ag⟩;have c2:=aO (ae (w:=wr.drew) HSr ag)
      have hJ2:=H1 hi _ wr w2 zh o8 yx (Qh (a:=wr) ⟨ag.os,ag.tape,ag.output,ag.size,ag.block⟩);obtain⟨f2,t2,a2,b2,jW,vI⟩:=HY (n - 1) hi (zg a i) (dL a i) w2 hJ2 (by rw[<-xM,Hz]) o8 (zT yx (show wr.heap.size<=w2.heap.size from ag.size));rw[<-oG.out] at jW
      (try dsimp only at jW))
   | (refine⟨(λh=>by cases h),(vI.mono (λe B h=>Hy h)).mono ?_⟩;rintro e w3 ⟨v,rfl,Jd,Je⟩;clear vI jW))
  all_goals
   have atb:Kept (λk=>(k<W/\X k)\/W<=k) W w2:=eF.trans (Qh (a:=wr) ⟨ag.os,ag.tape,ag.output,ag.size,ag.block⟩);have aBF:=zH atb;have JR:=zH (show wr.heap.size<=w2.heap.size from ag.size);clear ag atb c0 c2 eF;cases v
   ·have hx:=Je rfl;have HX:=zH hx;clear hx Jd Je;gi_wp2
    go_end0
    exact⟨⟨_,rfl⟩,.inr ⟨_,by rw[<-xM,Hz],HX⟩⟩
   obtain⟨hJ3,bW⟩:=Jd rfl;obtain⟨HJ3,Dn⟩:=zJ2 hJ3 bW;clear hJ3 bW Jd Je;gi_wp2;go_roundw
   case rel=>exact⟨i+1,hi,by go_num,zO,by have:=HB _ _ _ HJ3;rw[<-xM,Hz] at this;exact this,by rw[xM];exact HJ3,o8,zT (zT yx JR) Dn.size,aBF.trans (fE Dn λk h=>h.imp id (λh=>zT o8 h))⟩
   simp[intOf];omega
 gi_wp2;refine Qg (results_none rfl _ _ _) rfl ?_;exact⟨⟨_,rfl⟩,.inr ⟨_,rfl,Cb⟩⟩
end
section
open Go.ChangeShapes Go.WideShapes Go.ChangeAt
theorem acX{x:String×DataW Unit}{rest:List (String×DataW Unit)}(h:laidMet P (x::rest) W):laidMet P rest W:=by
 obtain⟨ps,⟨g,t,cs,fuel,p,q,h1,h2,h3,h4,h5,h6⟩,hn,hc⟩:=h;subst h6;exact⟨q,h5,(List.nodup_append.1 hn).2.1,λb off hb=>hc b off (z12.2 (.inr hb))⟩
theorem arY:(prog.globals[1]?).map (·.type)=some 297:=by kernel_rfl
theorem agZ(h:laidMetH prog Rows.contentChecksRow.laid W):Tab W:=by
 have h1:laidMet prog Rows.contentChecksRow.laid W:=h;exact Lib.tabIs_of_head (t:=297) (e:=230) (n:=20) gTab arY underlying297 zK zK zK (acX (acX h1))
theorem ak4{enc:TypeId×Value->H}{f:Func}{s:ChangeSpec}{apart fresh handsOn again:Bool}{W':World}{args:Array Value}{v:Value}{ds gs:List (DataW H)}{before pa pv:List MemPlace}
 (hW:DataW.Whole enc P f.params.toList s.vars apart W args.toList ds gs before)
 (hres:∀(b:Nat) (sp:Nat->Bool) (hd:Bool),DataW.TrodAll enc P W' b sp hd f.resultTypes.toList (v.resultList f.resultTypes.size) (s.fn H (ds++gs)).results [])
 (wF:∀sp:Nat->Bool,(∀p∈before,sp p.block=true)->DataW.TrodAll enc P W' 0 sp true f.params.toList args.toList (s.fn H (ds++gs)).args pa)
 (ar9:∀sp:Nat->Bool,(∀p∈before,sp p.block=true)->DataW.TrodVars enc P W' sp s.vars (s.fn H (ds++gs)).vars pv)
 (ZC:before=pa++pv) (hb:Bw W W')
 (fQ:∀(j:Nat) (t:TypeId) (r:Value),f.resultTypes[j]?=t->(v.resultList f.resultTypes.size)[j]?=r->Value.okWide P W' .any 0 t r):
 s.post enc P f apart fresh handsOn again W args v W':=by
 have aN:∀p∈before,p.block<W.heap.size:=λp hp=>hW.lt p hp;have hold:∀p∈before,(λb=>decide (b<W.heap.size)) p.block=true:=λp hp=>(by simpa using aN p hp);refine⟨ds,gs,before,[],pa,pv,hW,hres _ _ _,wF _ hold,ar9 _ hold,World.keptBut_mono (λp hp=>⟨hp,?_⟩) (hb.frame (· ∈before)),λ_=>?_⟩
 ·rw[ZC,z12] at hp;exact Or.inr hp
 obtain⟨_,_,_,_,_,hz,hn⟩:=hW;refine⟨fQ,_,_,([]++pa)++pv,⟨[]++pa,pv,trodAll_append (wF _ (λ_ _=>rfl)) (hres _ _ _),ar9 _ (λ_ _=>rfl),rfl,?_,?_⟩,?_⟩
 ·intro b off hp;have oO:MemPlace.cell b off∈before:=(by rw[ZC];simpa using hp);rw[hb.frozen (aN _ oO)];exact hz b off oO
 ·intro ha;have:=hn ha;rw[ZC] at this;simpa using this
 intro p hp _;rw[ZC];simpa using hp
def aAm:List Int:=[0,1,28,2,29,14,24,3,30,22,20,15,25,17,4,8,31,27,13,23,21,19,16,7,26,12,18,6,11,5,10,9]
def aAn:List Int:=[0,1,56,2,57,49,28,3,61,58,42,50,38,29,17,4,62,47,59,36,45,43,51,22,53,39,33,30,24,18,12,5,63,55,48,27,60,41,37,16,46,35,44,21,52,32,23,11,54,26,40,15,34,20,31,10,25,14,19,9,13,8,7,6]
def aJs:Value:=.agg #[(0:Int),(0:Int),(0:Int),(0:Int),(0:Int),.string ⟨#[]⟩,.string ⟨#[]⟩,.string ⟨#[]⟩,(),(),(0:Int),()]
def pzD:DataW H:=.agg [.lit (.int .i64 0),.lit (.int .i64 0),.lit (.int .i64 0),.lit (.int .i64 0),.agg [.lit (.int .i64 0),.agg [.lit (.string []),.lit (.string [])],.lit (.string []),.nil,.nil],.lit (.int .i64 0),.nil]
noncomputable def laidWorld(os:Os)(args:Array Value):World:=
 let set (h:Array Obj) (g:Nat) (k:IntKind) (zs:List Int):Array Obj:=h.modify g λ
  | .cells _ t frozen=>.cells (zs.map λz=>Value.int k z).toArray t frozen
  | o=>o
 { World.holding prog os ⟨#[],args,[]⟩ with heap:=set (set (set (World.holding prog os ⟨#[],args,[]⟩).heap 1 .u64 Lib.pow10Tab) 2 .u8 aAm) 3 .u8 aAn }
end
theorem iI.below{g1 g2:Nat}{m:oI}(h:iI w g1 g2 m)(hb:Bw w w'):iI w' g1 g2 m:=⟨h.1.below hb,h.2.below hb⟩
section
open Go.Shelf
attribute [local go_sem] Oper.semAt_some
theorem pX{B:Nat}{M:Nat->Prop}{A C:World}(h:Below B w A)(hB:B<=w)(hk:Kept M A C)(hM:∀k,k<B->¬M k):Below B w C:=h.trans (hk.below (zT hB h.size) hM)
theorem UK{a:ByteArray}{pre:List ByteArray}{x:ByteArray}(h:pre++[x]=zg a (pre++[x]).length):x=dL a pre.length/\pre=zg a pre.length:=by
 rw[z5,TQ,xM] at h;have h2:=List.append_inj h (by rw[Hz]);exact⟨by simpa using h2.2,h2.1⟩
theorem akp(g1 g2:Nat)(m:oI)(w:World)(hM:iI w g1 g2 m)(hT:Tab w)(I0:Nat)(hI:BH (λi=>(look eqS (dL uB i) m.2).getD false) I0)(hIb:I0<10000000):
 Rt 238 #[.agg #[.map (some g1),.map (some g2)]] w (dL uB I0):=by
 refine (t6 (n:=3)).1 ?_;obtain⟨w1,bI,S1,S2,lY,ai⟩:=ed w (Zc #[.map (some g1),.map (some g2)] 248) (Zc #[.string ⟨#[]⟩] 9);obtain⟨aQ,gY,HM,HT,HI,vN⟩:=zK6 (zH S1) (zH S2) (zH hM) (zH (hT.below ai)) (zH hI) hT.lt;clear S1 S2 hM hI;refine callsIn_of_wp_marks func238 rfl trivial ?_ rfl;simp only[ntmps238,YV,z9,z24,Nat.reduceAdd,Nat.reduceSub,Ze,Zd,List.push_toArray,ZD,d6,m7]
 gi_wp2_with (refine⟨trivial,?_⟩;gi_at_call 248;refine (t6.2 (Rx uB w1)).mono ?_;rintro e w2 ⟨rfl,jA,ag⟩)
 obtain⟨Gm,Dt,uS⟩:=zK3 (ai.seq ag) (aC jA) ag.size
 refine WJ (gf:=254) (lb:=#[.pointer (some ⟨w1,0,none⟩)]) rfl (enters_of func254 zK rfl)
  (acR uB w1 (I0+1) (· =w+1) w2 jA (HT.below ag) zO zO zO zD) (Kept.refl _ _) ⟨zO,zO⟩ (λ_=>rfl)
  (λ_ pre W=>pre.length<=I0/\Bw w2 W)
  (λc _ W=>c= .ret/\W.heap[w.heap.size+1]?=Zc #[(dL uB I0)] 9/\Bw w W)
  (λ_ pre W h=>by have:=h.1;omega)
  (λhi pre A B h h2 h3 hk=>⟨h.1,pX h.2 (zR _) hk zS5⟩)
  (λhi A h _ _=>h)
  (λc pre A B h hk=>⟨h.1,bF h.2.1 hk zO,pX h.2.2 (zR _) hk zS5⟩)
  (λW hb _=>⟨Nat.zero_le _,hb⟩)
  (λx _=>{ tmps:=#[.agg #[.map (some g1),.map (some g2)],(w,0),(w.heap.size+1,0),x,.func (.func 254) #[] #[(w1,0)],x,undef,undef,undef,undef,undef,undef],defers:=[] })
  (λ_ W=>W) (λ_ W=>j9 _ _) ?assign ?body ?done ?stop
 case assign=>
  intro m l x W K hK;gi_wp2;exact hK
 case body=>
  rintro mm l hi pre x W W2 ⟨Az,mV⟩ mM o8 yx hkW;obtain⟨hx,Gn⟩:=UK mM;subst hx;have T1:=ae (ae aQ ag) mV;have c0:=dw T1;have T2:=ae (ae gY ag) mV;have r0:=aO T2;have fr:=k8 W2 (w.heap.size+1) 0 _ _ T2;have nJ:iM W2 g2 lg m.2:=((HM.2.below ai).below ag).below mV;obtain⟨v,hv⟩:=zF ((look eqS (dL uB pre.length) m.2).getD false);have pg:=acb acd (mt:=115) zK (λW=>by kernel_rfl) nJ (dL uB pre.length) false;have aBH:(Instr.lookup 115 (.map (some g2)) (dL uB pre.length) false).run prog W2= .ok v W2:=(by rw[<-hv];exact pg)
  have hK1:v=false->pre.length=I0:=by
   intro h
   rcases i8 pre.length I0 with h1 | h1
   ·have:=HI.2 _ h1;simp only at this;rw[hv,h] at this;cases this
   omega
  have hK2:v=true->pre.length<I0:=by
   intro h
   rcases i8 pre.length I0 with h1 | h1
   ·exact h1
   have h2:pre.length=I0:=zO;have:=HI.1;simp only at this;rw[<-h2,hv,h] at this;cases this
  obtain⟨G9,RG,fC,nG⟩:=zJ4 hK1 hK2 T2 mV;clear pg hK1 hK2 nJ hv T1 T2 mM Gn;cases v
  ·have HPI:=zH (G9 rfl);clear G9 RG;gi_wp2;have hpi:=HPI.out;exact⟨(Kept.refl _ W2).setCell (p:=⟨w.heap.size+1,0,none⟩) (.inl (.inl ⟨by show w.heap.size+1<w2+2;omega,rfl⟩)) _,rfl,by rw[<-hpi];exact bD fC,(Gm.trans (nG.mono zO)).setCell (p:=⟨w.heap.size+1,0,none⟩) zP _⟩
  have HPI:=zH (RG rfl);clear G9 RG;gi_wp2;refine⟨Kept.refl _ _,?_,nG⟩;have h9:=HPI.out;rw[z5,TQ];exact h9
 case done=>
  rintro hi xs W h;exact h.elim
 case stop=>
  rintro c pre W mM ⟨rfl,hres,mV⟩ hK;gi_wp2;refine⟨zP,.inl ⟨_,_,rfl,run_takeDeferred hK,?_⟩⟩;have hk:Kept (λk=>k=w2) W (W.putObj w2 (.deferred none)):=dF _ _ _ rfl;have z0:=aO (bF hres hk zO);exact⟨(dL uB I0),by simp[results,results238,go_sem,z0],rfl,pX mV (zR _) hk zS5⟩
end
section
open Go.Shelf
attribute [local go_sem] Oper.semAt_some
theorem aky(g1 g2:Nat)(m:oI)(a:ByteArray)(w:World)(hM:iI w g1 g2 m)(hT:Tab w)(I0:Nat)(hI:BH (λi=>(look eqN (a,dL xB i) m.1).isSome) I0)(hIb:I0<10000000):
 Rt 239 #[.agg #[.map (some g1),.map (some g2)],a] w (.agg #[a,(dL xB I0)]):=by
 refine (t6 (n:=3)).1 ?_;obtain⟨w1,bI,S1,S2,S3,lY,ai⟩:=rD w (Zc #[.map (some g1),.map (some g2)] 248) (Zc #[a] 9) (Zc #[.string ⟨#[]⟩,.string ⟨#[]⟩] 23);obtain⟨aQ,gY,vC,HM,HT,HI,vN⟩:=zK7 (zH S1) (zH S2) (zH S3) (zH hM) (zH (hT.below ai)) (zH hI) hT.lt;clear S1 S2 S3 hM hI;refine callsIn_of_wp_marks func239 rfl trivial ?_ rfl;simp only[ntmps239,YV,z9,z24,Nat.reduceAdd,Nat.reduceSub,Ze,Zd,List.push_toArray,ZD,d6,m7]
 gi_wp2_with (refine⟨trivial,?_⟩;gi_at_call 248;refine (t6.2 (Rx xB w1)).mono ?_;rintro e w2 ⟨rfl,jA,ag⟩)
 obtain⟨Gm,Dt,uS⟩:=zK3 (ai.seq ag) (aC jA) ag.size
 refine WJ (gf:=254) (lb:=#[.pointer (some ⟨w1,0,none⟩)]) rfl (enters_of func254 zK rfl)
  (acR xB w1 (I0+1) (· =w+1+1) w2 jA (HT.below ag) zO zO zO zD) (Kept.refl _ _) ⟨zO,zO⟩ (λ_=>rfl)
  (λ_ pre W=>pre.length<=I0/\Bw w2 W)
  (λc _ W=>c= .ret/\W.heap[w.heap.size+1+1]?=Zc #[a,(dL xB I0)] 23/\Bw w W)
  (λ_ pre W h=>by have:=h.1;omega)
  (λhi pre A B h h2 h3 hk=>⟨h.1,pX h.2 (zR _) hk zS5⟩)
  (λhi A h _ _=>h)
  (λc pre A B h hk=>⟨h.1,bF h.2.1 hk zO,pX h.2.2 (zR _) hk zS5⟩)
  (λW hb _=>⟨Nat.zero_le _,hb⟩)
  (λx _=>{ tmps:=#[.agg #[.map (some g1),.map (some g2)],a,(w,0),(w.heap.size+1,0),(w.heap.size+1+1,0),x,undef,undef,undef,.func (.func 254) #[] #[(w1,0)],x,undef,undef,undef,undef,undef,undef,undef,undef,undef,undef,undef,undef,undef,undef],defers:=[] })
  (λ_ W=>W) (λ_ W=>j9 _ _) ?assign ?body ?done ?stop
 case assign=>
  intro m l x W K hK;gi_wp2;exact hK
 case body=>
  rintro mm l hi pre x W W2 ⟨Az,mV⟩ mM o8 yx hkW;have aIe:hi<=W2:=zT yx hkW.size;obtain⟨hx,Gn⟩:=UK mM;subst hx;obtain⟨w5,pq,S5,VC,bg⟩:=af W2 (Zc #[a,(dL xB pre.length)] 23);have ac3:=mV.trans (bg.mono mV.size);have T1:=ae (ae aQ ag) ac3;have c0:=dw T1;have e0:=aO (ae (ae gY ag) mV);have T3:=ae (ae vC ag) ac3;have r0:=dw T3;have s0:=dw S5;have f0:=zF2 w5 (w.heap.size+1+1) T3;have nJ:iM w5 g1 tq m.1:=((HM.1.below ai).below ag).below ac3;obtain⟨v,hv⟩:=zF ((look eqN (a,dL xB pre.length) m.1).isSome);obtain⟨u,hu⟩:=zF ((look eqN (a,dL xB pre.length) m.1).getD false);have pg:=acb ahk (mt:=246) zK (λW=>by kernel_rfl) nJ (a,dL xB pre.length) true;rw[hv,hu] at pg;have aBH:(Instr.lookup 246 (.map (some g1)) (.agg #[a,(dL xB pre.length)]) true).run prog w5= .ok (.tuple #[u,v]) w5:=pg
  have hK1:v=false->pre.length=I0:=by
   intro h
   rcases i8 pre.length I0 with h1 | h1
   ·have:=HI.2 _ h1;simp only at this;rw[hv,h] at this;cases this
   omega
  have hK2:v=true->pre.length<I0:=by
   intro h
   rcases i8 pre.length I0 with h1 | h1
   ·exact h1
   have h2:pre.length=I0:=zO;have:=HI.1;simp only at this;rw[<-h2,hv,h] at this;cases this
  obtain⟨G9,RG,lG,nG⟩:=zJ4 hK1 hK2 T3 ac3;have VA:Kept (λk=>(k<w2+2/\k=w+1+1)\/hi<=k) W2 w5:=Qh bg;have Rq:=zH VA;clear pg hK1 hK2 nJ hv hu T1 T3 mM Gn S5 VA ac3;cases v
  ·have HPI:=zH (G9 rfl);clear G9 RG;gi_wp2;have hpi:=HPI.out;exact⟨(Rq.setCell (p:=⟨w.heap.size+1+1,0,none⟩) (.inl (.inl ⟨by show w.heap.size+1+1<w2+2;omega,rfl⟩)) _).setCell (p:=⟨w.heap.size+1+1,1,none⟩) (.inl (.inl ⟨by show w.heap.size+1+1<w2+2;omega,rfl⟩)) _,rfl,by rw[<-hpi];exact Fb (Fa lG),((Gm.trans (nG.mono zO)).setCell (p:=⟨w.heap.size+1+1,0,none⟩) zS1 _).setCell (p:=⟨w.heap.size+1+1,1,none⟩) zS1 _⟩
  have HPI:=zH (RG rfl);clear G9 RG;gi_wp2;refine⟨Rq,?_,nG⟩;have h9:=HPI.out;rw[z5,TQ];exact h9
 case done=>
  rintro hi xs W h;exact h.elim
 case stop=>
  rintro c pre W mM ⟨rfl,hres,mV⟩ hK;gi_wp2;refine⟨zP,.inl ⟨_,_,rfl,run_takeDeferred hK,?_⟩⟩;have hk:Kept (λk=>k=w2) W (W.putObj w2 (.deferred none)):=dF _ _ _ rfl;obtain⟨z0,z1⟩:=dw (bF hres hk zO);exact⟨.agg #[a,(dL xB I0)],by simp[results,results239,go_sem,z0,z1],rfl,pX mV (zR _) hk zS5⟩
end
