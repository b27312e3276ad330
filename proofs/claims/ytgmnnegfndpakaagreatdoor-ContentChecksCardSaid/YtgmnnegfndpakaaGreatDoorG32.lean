import Derived.Test.YtgmnnegfndpakaaGreatDoorG31
import Derived.Test.YtgmnnegfndpakaaGreatDoorG05
import Derived.Lib.SliceRun
set_option maxHeartbeats 20000000
set_option maxRecDepth 100000
namespace Go.Proofs.YtgmnnegfndpakaaGreatDoor
open Go.RowKit Go.Maps Go.Sort Go.Shelf Go.ChangeMaps Go.MapKept
def Ko:Value->Option (DataW Unit×List MemPlace):=λ_=>some (.nil,[])
noncomputable def Xw(L:List (ByteArray×Bool)):DataW Unit:=.map (((mE lg L 0).map (Go.WideElems.rg Tryz.prog 9 Ko)).foldr DataW.insert [])
theorem arD(L:List (ByteArray×Bool))(hs:∀p∈L,p.1.size<=maxLen):∀i,(mE lg L i).map (Go.WideElems.rg Tryz.prog 9 Ko)=L.map λp=>(Lit.string p.1.data.toList,(DataW.nil:DataW Unit)):=by
 induction L with
 | nil=>intro i;rfl
 | cons p L ih=>
   intro i;obtain⟨k,v⟩:=p;have hk:keyOf Tryz.prog 9 (.string k)=some (.string k.data.toList):=Go.WideMaps.keyOf_string_mk Tryz.underlying9 (hs (k,v) (.head _))
   have hr:Go.WideElems.rg Tryz.prog 9 Ko ⟨lg k,.bool v,i⟩=(Lit.string k.data.toList,DataW.nil):=by
    show ((((keyOf Tryz.prog 9 (.string k)).bind λkey=>(Ko (.bool v)).map λy=>(key,y.1)).getD (.bool false,.nil)):Lit×DataW Unit)=_;rw[hk];rfl
   rw[mE,List.map_cons,List.map_cons,hr,ih (λq hq=>hs q (.tail _ hq))]
theorem keys_perm(L:List (ByteArray×Bool))(hs:∀p∈L,p.1.size<=maxLen):(strKeys (Xw L)).Perm (L.map λp=>p.1.data.toList):=by
 unfold Xw strKeys;rw[arD L hs 0];refine ((Go.WideShapes.sorted_perm _).map _).trans ?_;rw[List.map_map];exact List.Perm.refl _
def pY{κ:Type}(L:List (κ×Bool)):Prop:=(L.map (·.1)).Nodup
theorem Xx{κ:Type}(enc:κ->Value):∀(L:List (κ×Bool)) (i:Nat),(mE enc L i).map (·.key)=L.map λp=>enc p.1
 | [],_=>rfl
 | (k,v)::L,i=>by rw[mE,List.map_cons,List.map_cons,Xx enc L (i+1)]
theorem UL{κ:Type}(enc:κ->Value):∀(L:List (κ×Bool)) (i:Nat),(mE enc L i).map (·.born)=List.range' i L.length
 | [],_=>rfl
 | (k,v)::L,i=>by rw[mE,List.map_cons,List.length_cons,List.range'_succ,UL enc L (i+1)]
theorem PD{α β:Type}{f:α->β}(hf:∀a b,f a=f b->a=b):∀{l:List α},l.Nodup->(l.map f).Nodup
 | [],_=>by simp
 | a::l,h=>by
   rw[List.map_cons,List.nodup_cons];rw[List.nodup_cons] at h;refine⟨λhm=>?_,PD hf h.2⟩;obtain⟨b,hb,e⟩:=List.mem_map.1 hm;exact h.1 (hf _ _ e ▸ hb)
theorem ahG{w:World}{g:Nat}{L:List (ByteArray×Bool)}(h:iM w g lg L)(hn:pY L)(hs:∀p∈L,p.1.size<=maxLen)(hl:L.length<=maxLen):w.ownsMap Tryz.prog 9 Ko g L.length (Xw L):=by
 refine⟨(mE lg L 0).toArray,L.length,h,⟨?_,⟨?_,?_,?_⟩,?_⟩,?_,rfl⟩
 ·simpa[L6] using hl
 ·intro x hx
  obtain⟨j,hj,rfl⟩:=List.mem_iff_getElem.1 (show x∈mE lg L 0 from hx);have h1:=QP lg L 0 j;rw[List.getElem?_eq_getElem hj] at h1;rw[L6] at hj;rw[List.getElem?_eq_getElem hj] at h1;simp only[Option.map_some,Option.some.injEq,Nat.zero_add] at h1;rw[h1];exact hj
 ·show ((mE lg L 0).map (·.born)).Nodup
  rw[UL];exact List.nodup_range'
 ·show ((mE lg L 0).map (·.key)).Nodup
  rw[Xx];have:=PD (f:=lg) (λa b e=>by unfold lg at e;injection e) hn;rw[List.map_map] at this;exact this
 ·intro x hx
  obtain⟨j,hj,rfl⟩:=List.mem_iff_getElem.1 (show x∈mE lg L 0 from hx);have h1:=QP lg L 0 j;rw[List.getElem?_eq_getElem hj] at h1;rw[L6] at hj;rw[List.getElem?_eq_getElem hj] at h1;simp only[Option.map_some,Option.some.injEq,Nat.zero_add] at h1;rw[h1];have hk:keyOf Tryz.prog 9 (.string L[j].1)=some (.string L[j].1.data.toList):=Go.WideMaps.keyOf_string_mk Tryz.underlying9 (hs _ (List.getElem_mem hj));refine⟨(.string L[j].1.data.toList,.nil),?_⟩;show (((keyOf Tryz.prog 9 (.string L[j].1)).bind λkey=>(Ko (.bool L[j].2)).map λy=>(key,y.1)):Option (Lit×DataW Unit))=_;rw[hk];rfl
 ·simp[L6]
theorem Xy(L:List (ByteArray×Bool)):Maps.size (Xw L)=L.length:=by
 show (((mE lg L 0).map (Go.WideElems.rg Tryz.prog 9 Ko)).foldr DataW.insert []).length=_;rw[length_sorted,List.length_map,L6]
end Go.Proofs.YtgmnnegfndpakaaGreatDoor
namespace Go.Proofs.YtgmnnegfndpakaaGreatDoor
open Go.RowKit Go.Sort Go.Shelf
theorem aci(x:ByteArray):kQ x x=false:=by unfold kQ;simp
theorem Cc{x y z:ByteArray}(h:kQ x y=true)(k:kQ y z=true):kQ x z=true:=by
 unfold kQ at*;exact decide_eq_true (List.lt_trans (of_decide_eq_true h) (of_decide_eq_true k))
theorem zk{x y:ByteArray}(h:kQ x y=false)(k:kQ y x=false):x=y:=by
 unfold kQ at*;have h1:=of_decide_eq_false h;have h2:=of_decide_eq_false k;have:=List.le_antisymm (List.not_lt.1 h2) (List.not_lt.1 h1);exact toList_eq (by rw[Lib.toList_data,Lib.toList_data,this])
theorem tH(x:Nm):jg x x=false:=by unfold jg;rw[aci,aci];simp
theorem agd(x y:Nm):jg x y=true↔kQ x.1 y.1=true\/(x.1=y.1/\kQ x.2 y.2=true):=by
 unfold jg;rw[Bool.or_eq_true,z7,iV]
theorem vY{x y z:Nm}(h:jg x y=true)(k:jg y z=true):jg x z=true:=by
 rw[agd] at*
 rcases h with h | ⟨h,h2⟩<;>rcases k with k | ⟨k,k2⟩
 ·exact .inl (Cc h k)
 ·exact .inl (k ▸ h)
 ·exact .inl (h ▸ k)
 ·exact .inr ⟨h.trans k,Cc h2 k2⟩
theorem vZ{x y:Nm}(h:jg x y=false)(k:jg y x=false):x=y:=by
 have h':¬jg x y=true:=by rw[h];simp
 have k':¬jg y x=true:=by rw[k];simp
 rw[agd] at h' k';have e1:x.1=y.1:=zk (by cases hh:kQ x.1 y.1 with | false=>rfl | true=>exact absurd (.inl hh) h') (by cases hh:kQ y.1 x.1 with | false=>rfl | true=>exact absurd (.inl hh) k');have e2:x.2=y.2:=zk (by cases hh:kQ x.2 y.2 with | false=>rfl | true=>exact absurd (.inr ⟨e1,hh⟩) h') (by cases hh:kQ y.2 x.2 with | false=>rfl | true=>exact absurd (.inr ⟨e1.symm,hh⟩) k');exact Prod.ext e1 e2
theorem zM{x y z:Nm}(h:jg x y=false)(k:jg y z=false):jg x z=false:=by
 cases hh:jg x z with
 | false=>rfl
 | true=>
   cases h2:jg y x with
   | true=>rw[vY h2 hh] at k;cases k
   | false=>
     have:=vZ h h2;subst this;rw[hh] at k;cases k
theorem zl(x y:Nm):ltOf Iw x y=jg x y:=afx x y
theorem aBJ:SWO (ltOf Iw):=⟨λx=>by rw[zl];exact tH x,λx y z h k=>by rw[zl] at*;exact vY h k,λx y z h k=>by rw[zl] at*;exact zM h k⟩
theorem RI(a b c d:ByteArray)(w:World):
 Calls Tryz.prog 144 #[.agg #[.string a,.string b],.agg #[.string c,.string d]] w λe w'=>e= .returned (.int .i64 (Iw (a,b) (c,d)))/\∃q os',w'=grow (w.drewN q) os':=by
 have HG:Hid (∃os,(w.alloc (.cells #[.string a,.string b] 23)).alloc (.cells #[.string c,.string d] 23)=grow w os):=zH ⟨_,by rw[alloc_eq_grow,alloc_eq_grow,grow_grow]⟩;obtain⟨w1,bI,ai,ag,bY,aH⟩:=ed w (.cells #[.string a,.string b] 23) (.cells #[.string c,.string d] 23);have xC:Hid (∃q os',w1=grow (w.drewN q) os'):=zH (by obtain⟨os,h⟩:=HG.out;exact⟨0,os,by rw[<-bI,h];rfl⟩);have q0:=dw ai;have r0:=dw ag;have bP:=arh a c;obtain⟨x,hx⟩:=zF (F7 a c);have HS:∀u v W,Hid (Calls Tryz.prog 177 #[.string u,.string v] W λe w'=>e= .returned (.int .i64 (F7 u v))/\w'=W):=λu v W=>Tryz.strings_Compare u v W
 have HR:Hid (Iw (a,b) (c,d)=if x≠0 then x else F7 b d):=by unfold Iw;rw[hx];exact rfl
 clear ai ag;go_enter Tryz.func144,Tryz.ntmps144;go_wp2_with fail;refine (HS a c _).out.mono ?_;rintro e w' ⟨rfl,rfl⟩;rw[hx] at bP ⊢;clear hx;by_cases h0:x=0
 ·subst h0
  go_wp2_with fail;refine (HS b d _).out.mono ?_;rintro e w' ⟨rfl,rfl⟩;go_wp2_with fail;go_ret;exact⟨iU (by rw[HR.out];rfl),xC.out⟩
 ·go_wp2_with fail
  go_ret;exact⟨iU (by rw[HR.out,if_pos h0]),xC.out⟩
theorem am4(blk off size:Nat)(w:World):CmpLays Tryz.prog 144 #[] dK 2 Iw blk off size w:=λ_ _ _ _ x y=>RI x.1 x.2 y.1 y.2 _
theorem Kq{w:World}{g off:Nat}{l:List Nm}(h:HoldsK dK 2 w g off l.toArray):∀i x,l[i]?=some x->cu w g (off+i*2) (dK x):=by
 intro i x hx j v hv;have hi:i<l.length:=(List.getElem?_eq_some_iff.1 hx).1;have hj:j<2:=(List.getElem?_eq_some_iff.1 hv).1;have h1:=(h (i*2+j) (by simp;omega)).1;rw[get_flatK _ _ _ _ (by simp;omega)] at h1;rw[Nat.add_assoc,h1]
 have e1:(i*2+j) / 2=i:=by omega
 have e2:(i*2+j) % 2=j:=by omega
 rw[e1,e2]
 have e3:l.toArray[i]! =x:=by
  rw[getElem!_pos l.toArray i (by simpa using hi)];obtain⟨_,rfl⟩:=List.getElem?_eq_some_iff.1 hx;simp
 rw[e3]
 have:(dK x)[j]! =v:=by
  rw[getElem!_pos (dK x) j hj];obtain⟨_,rfl⟩:=List.getElem?_eq_some_iff.1 hv;rfl
 rw[this];rfl
theorem yE{w:World}{g:Nat}{l:List Nm}{cur:Array Value}(hg:w.heap[g]?=some (.cells cur 23 (0,0)))(hc:cur.toList.take (l.length*2)=l.flatMap dK):HoldsK dK 2 w g 0 l.toArray:=by
 intro t ht
 have E8:t<l.length*2:=by simpa using ht
 refine⟨?_,frozen_of_row w g _ _ _ hg⟩;rw[Nat.zero_add,cell_of_row w g _ _ _ _ hg]
 have hq:t / 2<l.length:=by omega
 have hx:l[t / 2]?=some l[t / 2]:=z6 hq;have hf:=flat_get wX l (t / 2) (t % 2) _ hx (Nat.mod_lt _ zD);rw[show t / 2*2+t % 2=t by omega,<-hc,List.getElem?_take_of_lt E8] at hf
 have e:cur[t]?=(dK l[t / 2])[t % 2]?:=by simpa using hf
 rw[e,get_flatK _ _ _ _ (by simpa using E8)]
 have e3:l.toArray[t / 2]! =l[t / 2]:=by rw[getElem!_pos l.toArray (t / 2) (by simpa using hq)];simp
 have lW:t % 2<(dK l[t / 2]).length:=Nat.mod_lt _ zD;rw[e3,z6 lW,getElem!_pos (dK l[t / 2]) (t % 2) lW];rfl
theorem PE{w:World}{g n:Nat}{os:Array Obj}(d:Array Nm):w.grownBy (sortWorldK dK 2 w g 0 n d os) (some g):=by
 refine⟨rfl,rfl,rfl,?_,λk hk dD=>?_⟩
 ·show w.heap.size<=((putRowK dK 2 (Sort.ahead w n) g 0 d).heap++os).size
  rw[Array.size_append];have:(putRowK dK 2 (Sort.ahead w n) g 0 d).heap.size=w.heap.size:=size_putRow id (Sort.ahead w n) g 0 _;omega
 ·show ((putRowK dK 2 (Sort.ahead w n) g 0 d).heap++os)[k]?=w.heap[k]?
  have hs:(putRowK dK 2 (Sort.ahead w n) g 0 d).heap.size=w.heap.size:=size_putRow id (Sort.ahead w n) g 0 _;rw[Array.getElem?_append_left zO];show (w.heap.modify g _)[k]?=w.heap[k]?;rw[Array.getElem?_modify,if_neg (λe=>dD (by rw[e]))]
theorem akr(base:Nat)(l:List Nm)(v:Value)(w:World)(vP:ax w base 23 2 dK l v)(hB:base<=w.heap.size)(hl:l.length<4000000):
 Calls Tryz.prog 119 #[v,.func (.func 144) #[] #[]] w λe w'=>e= .returned (.tuple #[])/\(∃A c ns,v= .slice A ns.length c/\ns.Perm l/\ns.Pairwise (λx y=>jg y x=false)/\aY w' (λb=>base<=b) 2 dK ns A ns.length/\ns.length<=c)/\Below base w w':=by
 rcases vP.2 with ⟨rfl,hn⟩ | ⟨g,cap,cur,rfl,hg,hh,GK,yg,mP,kU⟩
 ·have Me:l=[]:=List.eq_nil_of_length_eq_zero hn
  subst Me;have h:=AnyF.slices_SortFunc_none Tryz.Xv none 0 (.func (.func 144) #[] #[]) w;refine Calls.mono (P:=Tryz.prog) (f:=119) h ?_;rintro e w' ⟨rfl,rfl⟩;exact⟨rfl,⟨none,0,[],rfl,List.Perm.refl _,List.Pairwise.nil,aY.nil _ _ _ _ _,zR _⟩,Below.refl _ _⟩
 ·have dD:g<w.heap.size:=aC hh
  have h:=AnyQ.slices_SortFunc_total Tryz.Xv 2 (λw=>by kernel_rfl) (λw=>by kernel_rfl) dK wX (λx u hu=>by simp[dK] at hu;rcases hu with rfl | rfl<;>rfl) Iw aBJ 144 #[] g 0 cap l.toArray w (enters_of Tryz.func144 zK rfl) (am4 _ _ _ _) (yE hh kU) dD (by simp;omega) (λx y h k=>by rw[zl] at h k;exact vZ h k);rw[List.size_toArray] at h;refine Calls.mono (P:=Tryz.prog) (f:=119) h ?_;rintro e w' ⟨rfl,n,os,rfl⟩;obtain⟨ns,Jh⟩:=zF ((l.toArray.toList.mergeSort λx y=>!(ltOf Iw) y x))
  have hp:ns.Perm l:=by rw[<-Jh];exact List.mergeSort_perm _ _
  have zo:ns.Pairwise (λx y=>jg y x=false):=by
   have:=List.pairwise_mergeSort (le:=λx y=>!(ltOf Iw) y x) (λa b c h1 h2=>by
    simp only[zl,Bool.not_eq_true'] at*
    exact zM h2 h1) (λa b=>by
    simp only[zl]
    cases h1:jg b a with
    | false=>rfl
    | true=>
      cases h2:jg a b with
      | false=>rfl
      | true=>have:=vY h1 h2;rw[tH] at this;cases this) l.toArray.toList
   rw[Jh] at this;exact this.imp λh=>(by simpa[zl] using h)
  rw[Jh];have hlen:ns.length=l.length:=hp.length_eq;have hH:=holdsK_sortWorldK dK 2 w g 0 n l.toArray ns.toArray os dD (yE hh kU) (by simp[hlen]);refine⟨rfl,⟨some ⟨g,0,none⟩,cap,ns,by rw[hlen],hp,zo,⟨rfl,λ_=>⟨g,0,rfl,hg,Kq hH⟩⟩,zO⟩,?_⟩;have fO:=PE (w:=w) (g:=g) (n:=n) (os:=os) ns.toArray;exact⟨fO.os,fO.tape,fO.output,fO.size,λk hk=>fO.block k zO (λe=>by have:=zI e;omega)⟩
end Go.Proofs.YtgmnnegfndpakaaGreatDoor
namespace Go.Proofs.YtgmnnegfndpakaaGreatDoor
open Go.RowKit
open Go.Sort Go.Shelf
def Gr(w w':World):Prop:=∃q os',w'=grow (w.drewN q) os'
theorem Gr.refl(w:World):Gr w w:=⟨0,#[],by simp[grow,World.drewN]⟩
theorem Gr.trans{a b c:World}(h:Gr a b)(k:Gr b c):Gr a c:=by
 obtain⟨q,os,rfl⟩:=h;obtain⟨q',os',rfl⟩:=k;exact⟨q+q',os++os',by simp[grow,World.drewN,Array.append_assoc,Nat.add_assoc]⟩
theorem Gr.alloc(w:World)(o:Obj):Gr w (w.alloc o):=⟨0,#[o],by rw[alloc_eq_grow];rfl⟩
theorem Gr.below{w w':World}(h:Gr w w'):Bw w w':=by
 obtain⟨q,os,rfl⟩:=h;exact⟨rfl,rfl,rfl,by simp[grow,World.drewN],λk hk=>by simp[grow,World.drewN,Array.getElem?_append_left hk]⟩
theorem aaM(a b c d:ByteArray)(w:World):
 Calls Tryz.prog 78 #[.agg #[.string a,.string b],.agg #[.string c,.string d]] w λe w'=>e= .returned (.bool (jg (a,b) (c,d)))/\Gr w w':=by
 have HG:Hid (Gr w ((w.alloc (.cells #[.string a,.string b] 23)).alloc (.cells #[.string c,.string d] 23))):=zH ((Gr.alloc _ _).trans (Gr.alloc _ _));obtain⟨w1,bI,ai,ag,bY,aH⟩:=ed w (.cells #[.string a,.string b] 23) (.cells #[.string c,.string d] 23);rw[bI] at HG;have q0:=dw ai;have r0:=dw ag;have HL:=zH (afx (a,b) (c,d));clear ai ag;go_enter Tryz.func78,Tryz.ntmps78;go_wp2_with fail;refine (RI a b c d _).mono ?_;rintro e w2 ⟨rfl,ag⟩;have xC:Hid (Gr w w2):=zH (HG.out.trans ag);clear ag;go_wp2_with fail;go_ret;exact⟨aK HL.out,xC.out⟩
def cmpL(x y:Nm):Int:=if jg x y then -1 else if jg y x then 1 else 0
theorem abh(a b c d:ByteArray)(w:World):
 Calls Tryz.prog 120 #[.agg #[.string a,.string b],.agg #[.string c,.string d]] w λe w'=>e= .returned (.int .i64 (cmpL (a,b) (c,d)))/\Gr w w':=by
 have HG:Hid (Gr w ((w.alloc (.cells #[.string a,.string b] 23)).alloc (.cells #[.string c,.string d] 23))):=zH ((Gr.alloc _ _).trans (Gr.alloc _ _));obtain⟨w1,bI,ai,ag,bY,aH⟩:=ed w (.cells #[.string a,.string b] 23) (.cells #[.string c,.string d] 23);rw[bI] at HG;have q0:=dw ai;have r0:=dw ag;have aQ:=zH ai;have gY:=zH ag;obtain⟨v1,hv1⟩:=zF (jg (a,b) (c,d));obtain⟨v2,Ue⟩:=zF (jg (c,d) (a,b));have HC:Hid (cmpL (a,b) (c,d)=if v1 then -1 else if v2 then 1 else 0):=zH (by unfold cmpL;rw[hv1,Ue]);have L1:=zH (aaM a b c d w1);have L2:=zH (aaM c d a b);rw[hv1] at L1;rw[Ue] at L2;clear ai ag hv1 Ue;cases v1
 ·cases v2
  all_goals
   go_enter Tryz.func120,Tryz.ntmps120;go_wp2_with fail;refine L1.out.mono ?_;rintro e w2 ⟨rfl,g2⟩;have ag:=g2.below;clear q0 r0;have q0:=dw (ae aQ.out ag);have r0:=dw (ae gY.out ag);have xC:=zH (HG.out.trans g2);clear g2;go_wp2_with fail;refine (L2.out w2).mono ?_;rintro e w3 ⟨rfl,g3⟩;have HG3:=zH (xC.out.trans g3);clear g3;go_wp2_with fail;go_ret;exact⟨iU (by rw[HC.out];rfl),HG3.out⟩
 ·go_enter Tryz.func120,Tryz.ntmps120
  go_wp2_with fail;refine L1.out.mono ?_;rintro e w2 ⟨rfl,g2⟩;have xC:=zH (HG.out.trans g2);clear g2;go_wp2_with fail;go_ret;exact⟨iU (by rw[HC.out];rfl),xC.out⟩
theorem anU(blk off size:Nat)(w:World):CmpLays Tryz.prog 120 #[] dK 2 cmpL blk off size w:=λ_ _ _ _ x y=>abh x.1 x.2 y.1 y.2 _
theorem zB(x y:Nm):ltOf cmpL x y=jg x y:=by
 show decide (cmpL x y<0)=jg x y;unfold cmpL;cases jg x y
 ·cases jg y x<;>rfl
 ·rfl
theorem aCl:SWO (ltOf cmpL):=⟨λx=>by rw[zB];exact tH x,λx y z h k=>by rw[zB] at*;exact vY h k,λx y z h k=>by rw[zB] at*;exact zM h k⟩
end Go.Proofs.YtgmnnegfndpakaaGreatDoor
namespace Go.Proofs.YtgmnnegfndpakaaGreatDoor
open Go.RowKit
theorem X6(w:World)(ty:TypeId)(b o n c:Nat)(hn:0<n)(hc:∀j,j<n*2->(w.cell? ⟨b,o+j,none⟩).isSome=true)(hf:∀j,j<n*2->w.frozen? ⟨b,o+j,none⟩=false):
 (Builtin.clear_ #[37] ty #[.slice (some ⟨b,o,none⟩) n c]).run Tryz.prog w= .ok (.tuple #[]) (w.setCells b o (List.replicate (n*2) (.string ⟨#[]⟩))):=by
 have hzc:(Builtin.zeroCells #[.string ⟨#[]⟩,.string ⟨#[]⟩] n).toList=List.replicate (n*2) (Value.string ⟨#[]⟩):=by
  simp[Builtin.zeroCells];apply List.ext_getElem
  ·simp
  ·intro i h1 h2
   have h3:i % 2=0\/i % 2=1:=by omega
   rcases h3 with h3 | h3<;>simp[h3]
 have bZ:=run_storeCells_cells (P:=Tryz.prog) b o (List.replicate (n*2) (.string ⟨#[]⟩)) 0 w (by simpa using hc) (by simpa using hf) (by intro v hv';rw[List.eq_of_mem_replicate hv'];rfl);simp only[Nat.add_zero] at bZ;obtain⟨m,rfl⟩:∃m,n=m+1:=⟨n - 1,zO⟩
 have hz:∀w,(zeroValue 23).run Tryz.prog w= .ok (.agg #[.string ⟨#[]⟩,.string ⟨#[]⟩]) w:=λw=>by kernel_rfl
 have aaF:(Value.agg #[.string ⟨#[]⟩,.string ⟨#[]⟩]).cells= #[.string ⟨#[]⟩,.string ⟨#[]⟩]:=rfl;simp[Builtin.clear_,run_underlying Tryz.underlying37,hz,aaF,hzc,bZ]
end Go.Proofs.YtgmnnegfndpakaaGreatDoor
