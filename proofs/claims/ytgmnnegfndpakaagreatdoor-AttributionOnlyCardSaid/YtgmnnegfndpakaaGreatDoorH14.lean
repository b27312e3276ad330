import Derived.Test.YtgmnnegfndpakaaGreatDoorK01
import Derived.Test.YtgmnnegfndpakaaGreatDoorH13
import Derived.Lib.SliceRun
set_option maxHeartbeats 20000000
set_option maxRecDepth 100000
namespace Go.Proofs.YtgmnnegfndpakaaGreatDoor
open Go.RowKit Go.Proofs.Tryz
variable{κ:Type}{w w':World}{g x base cap j:Nat}{y z:Nm}{l:List Nat}{cur cur':Array Value}
section
open Go.Maps Go.Sort Go.Shelf Go.ChangeMaps Go.MapKept
def Ko:Value->Option (DataW Unit×List MemPlace):=λ_=>some (.nil,[])
noncomputable def Xw(L:List (ByteArray×Bool)):DataW Unit:=.map (((mE lg L 0).map (Go.WideElems.rg prog 9 Ko)).foldr DataW.insert [])
theorem arD(L:List (ByteArray×Bool))(hs:∀p∈L,p.1.size<=maxLen):∀i,(mE lg L i).map (Go.WideElems.rg prog 9 Ko)=L.map λp=>(Lit.string p.1.data.toList,(DataW.nil:DataW Unit)):=by
 induction L with
 | nil=>intro i;rfl
 | cons p L ih=>
   intro i;obtain⟨k,v⟩:=p;have hk:keyOf prog 9 k=some (.string k.data.toList):=Go.WideMaps.keyOf_string_mk underlying9 (hs (k,v) (.head _))
   have hr:Go.WideElems.rg prog 9 Ko ⟨lg k,v,i⟩=(Lit.string k.data.toList,DataW.nil):=by
    show ((((keyOf prog 9 k).bind λkey=>(Ko v).map λy=>(key,y.1)).getD (.bool false,.nil)):Lit×DataW Unit)=_;rw[hk];rfl
   rw[mE,Jm,Jm,hr,ih (λq hq=>hs q (.tail _ hq))]
theorem keys_perm(L:List (ByteArray×Bool))(hs:∀p∈L,p.1.size<=maxLen):(strKeys (Xw L)).Perm (L.map λp=>p.1.data.toList):=by
 unfold Xw strKeys;rw[arD L hs 0];refine ((Go.WideShapes.sorted_perm _).map _).trans ?_;rw[List.map_map];exact List.Perm.refl _
def pY(L:List (κ×Bool)):Prop:=(L.map (·.1)).Nodup
theorem Xx(enc:κ->Value):∀(L:List (κ×Bool)) (i:Nat),(mE enc L i).map (·.key)=L.map λp=>enc p.1
 | [],_=>rfl
 | (k,v)::L,i=>by rw[mE,Jm,Jm,Xx enc L (i+1)]
theorem UL(enc:κ->Value):∀(L:List (κ×Bool)) (i:Nat),(mE enc L i).map (·.born)=List.range' i L.length
 | [],_=>rfl
 | (k,v)::L,i=>by rw[mE,Jm,List.length_cons,List.range'_succ,UL enc L (i+1)]
theorem PD{α β:Type}{f:α->β}(hf:∀a b,f a=f b->a=b):∀{l:List α},l.Nodup->(l.map f).Nodup
 | [],_=>by simp
 | a::l,h=>by
   rw[Jm,List.nodup_cons];rw[List.nodup_cons] at h;refine⟨λhm=>?_,PD hf h.2⟩;obtain⟨b,hb,e⟩:=List.mem_map.1 hm;exact h.1 (hf _ _ e ▸ hb)
theorem ahG{L:List (ByteArray×Bool)}(h:iM w g lg L)(hn:pY L)(hs:∀p∈L,p.1.size<=maxLen)(hl:L.length<=maxLen):w.ownsMap prog 9 Ko g L.length (Xw L):=by
 refine⟨(mE lg L 0).toArray,L.length,h,⟨?_,⟨?_,?_,?_⟩,?_⟩,?_,rfl⟩
 ·simpa[L6] using hl
 ·intro x hx;obtain⟨j,hj,rfl⟩:=List.mem_iff_getElem.1 (show x∈mE lg L 0 from hx);have h1:=QP lg L 0 j;rw[Jl hj] at h1;rw[L6] at hj;rw[Jl hj] at h1;simp only[Option.map_some,l5,d9] at h1;rw[h1];exact hj
 ·show ((mE lg L 0).map (·.born)).Nodup;rw[UL];exact List.nodup_range'
 ·show ((mE lg L 0).map (·.key)).Nodup;rw[Xx];have:=PD (f:=lg) (λa b e=>by unfold lg at e;injection e) hn;rw[List.map_map] at this;exact this
 ·intro x hx;obtain⟨j,hj,rfl⟩:=List.mem_iff_getElem.1 (show x∈mE lg L 0 from hx);have h1:=QP lg L 0 j;rw[Jl hj] at h1;rw[L6] at hj;rw[Jl hj] at h1;simp only[Option.map_some,l5,d9] at h1;rw[h1];have hk:keyOf prog 9 L[j].1=some (.string L[j].1.data.toList):=Go.WideMaps.keyOf_string_mk underlying9 (hs _ (List.getElem_mem hj));refine⟨(.string L[j].1.data.toList,.nil),?_⟩;show (((keyOf prog 9 L[j].1).bind λkey=>(Ko L[j].2).map λy=>(key,y.1)):Option (Lit×DataW Unit))=_;rw[hk];rfl
 simp[L6]
theorem Xy(L:List (ByteArray×Bool)):Maps.size (Xw L)=L.length:=by
 show (((mE lg L 0).map (Go.WideElems.rg prog 9 Ko)).foldr DataW.insert []).length=_;rw[length_sorted,List.length_map,L6]
end
section
open Go.Sort Go.Shelf
theorem aci(x:ByteArray):kQ x x=false:=by unfold kQ;simp
theorem Cc{x y z:ByteArray}(h:kQ x y=true)(k:kQ y z=true):kQ x z=true:=by
 unfold kQ at*;exact decide_eq_true (List.lt_trans (of_decide_eq_true h) (of_decide_eq_true k))
theorem zk{x y:ByteArray}(h:kQ x y=false)(k:kQ y x=false):x=y:=by
 unfold kQ at*;have h1:=of_decide_eq_false h;have h2:=of_decide_eq_false k;have:=List.le_antisymm (List.not_lt.1 h2) (List.not_lt.1 h1);exact toList_eq (by rw[Lib.toList_data,Lib.toList_data,this])
theorem tH(x:Nm):jg x x=false:=by unfold jg;rw[aci,aci];simp
theorem agd(x y:Nm):jg x y=true↔kQ x.1 y.1=true\/(x.1=y.1/\kQ x.2 y.2=true):=by
 unfold jg;rw[Bool.or_eq_true,z7,iV]
theorem vY{x:Nm}(h:jg x y=true)(k:jg y z=true):jg x z=true:=by
 rw[agd] at*
 rcases h with h | ⟨h,h2⟩<;>rcases k with k | ⟨k,k2⟩
 ·exact .inl (Cc h k)
 ·exact .inl (k ▸ h)
 ·exact .inl (h ▸ k)
 exact .inr ⟨h.trans k,Cc h2 k2⟩
theorem vZ{x:Nm}(h:jg x y=false)(k:jg y x=false):x=y:=by
 have h':¬jg x y=true:=(by rw[h];simp);have k':¬jg y x=true:=(by rw[k];simp);rw[agd] at h' k';have e1:x.1=y.1:=zk (by cases hh:kQ x.1 y.1 with | false=>rfl | true=>exact absurd (.inl hh) h') (by cases hh:kQ y.1 x.1 with | false=>rfl | true=>exact absurd (.inl hh) k');have e2:x.2=y.2:=zk (by cases hh:kQ x.2 y.2 with | false=>rfl | true=>exact absurd (.inr ⟨e1,hh⟩) h') (by cases hh:kQ y.2 x.2 with | false=>rfl | true=>exact absurd (.inr ⟨e1.symm,hh⟩) k');exact Prod.ext e1 e2
theorem zM{x:Nm}(h:jg x y=false)(k:jg y z=false):jg x z=false:=by
 cases hh:jg x z with
 | false=>rfl
 | true=>
   cases h2:jg y x with
   | true=>rw[vY h2 hh] at k;cases k
   | false=>
     have:=vZ h h2;subst this;rw[hh] at k;cases k
theorem zl(x y:Nm):ltOf Iw x y=jg x y:=afx x y
theorem aBJ:SWO (ltOf Iw):=⟨λx=>by rw[zl];exact tH x,λx y z h k=>by rw[zl] at*;exact vY h k,λx y z h k=>by rw[zl] at*;exact zM h k⟩
theorem RI(a b c d:ByteArray)(w:World):
 Cl 144 #[.agg #[a,b],.agg #[c,d]] w λe w'=>e= .returned (Iw (a,b) (c,d))/\∃q os',w'=grow (w.drewN q) os':=by
 have HG:Hid (∃os,(w.alloc (Zc #[a,b] 23)).alloc (Zc #[c,d] 23)=grow w os):=zH ⟨_,by rw[alloc_eq_grow,alloc_eq_grow,grow_grow]⟩;obtain⟨w1,bI,ai,ag,bY,aH⟩:=ed w (Zc #[a,b] 23) (Zc #[c,d] 23);have xC:Hid (∃q os',w1=grow (w.drewN q) os'):=zH (by obtain⟨os,h⟩:=HG.out;exact⟨0,os,by rw[<-bI,h];rfl⟩);have q0:=dw ai;have r0:=dw ag;have bP:=arh a c;obtain⟨x,hx⟩:=zF (F7 a c);have HS:∀u v W,Hid (Cl 177 #[.string u,.string v] W λe w'=>e= .returned (.int .i64 (F7 u v))/\w'=W):=λu v W=>Tryz.strings_Compare u v W;have HR:Hid (Iw (a,b) (c,d)=if x≠0 then x else F7 b d):=(by unfold Iw;rw[hx];exact rfl);clear ai ag;go_enter func144,ntmps144;go_wp2_with fail;refine (HS a c _).out.mono ?_;rintro e w' ⟨rfl,rfl⟩;rw[hx] at bP ⊢;clear hx;by_cases h0:x=0
 ·subst h0;go_wp2_with fail;refine (HS b d _).out.mono ?_;rintro e w' ⟨rfl,rfl⟩;go_wp2_with fail;go_ret;exact⟨iU (by rw[HR.out];rfl),xC⟩
 go_wp2_with fail;go_ret;exact⟨iU (by rw[HR.out,j6 h0]),xC⟩
theorem am4(blk off size:Nat)(w:World):CmpLays prog 144 #[] dK 2 Iw blk off size w:=λ_ _ _ _ x y=>RI x.1 x.2 y.1 y.2 _
theorem Kq{off:Nat}{l:List Nm}(h:HoldsK dK 2 w g off l.toArray):∀i x,l[i]?=some x->cu w g (off+i*2) (dK x):=by
 intro i x hx j v hv;have hi:i<l.length:=(z4.1 hx).1;have hj:j<2:=(z4.1 hv).1;have h1:=(h (i*2+j) zS1).1;rw[get_flatK _ _ _ _ zS1] at h1;rw[Nat.add_assoc,h1];have e1:(i*2+j) / 2=i:=zO;have e2:(i*2+j) % 2=j:=zO;rw[e1,e2]
 have e3:l.toArray[i]! =x:=by
  rw[getElem!_pos l.toArray i (by simpa using hi)];obtain⟨_,rfl⟩:=z4.1 hx;simp
 rw[e3]
 have:(dK x)[j]! =v:=by
  rw[getElem!_pos (dK x) j hj];obtain⟨_,rfl⟩:=z4.1 hv;rfl
 rw[this];rfl
theorem yE{l:List Nm}(hg:w.heap[g]?=some (.cells cur 23 (0,0)))(hc:cur.toList.take (l.length*2)=l.flatMap dK):HoldsK dK 2 w g 0 l.toArray:=by
 intro t ht;have E8:t<l.length*2:=(by simpa using ht);refine⟨?_,k8 w g _ _ _ hg⟩;rw[d9,Ys w g _ _ _ _ hg];have hq:t / 2<l.length:=zO;have hx:l[t / 2]?=l[t / 2]:=z6 hq;have hf:=flat_get wX l (t / 2) (t % 2) _ hx (Nat.mod_lt _ zD);rw[show t / 2*2+t % 2=t by omega,<-hc,Za E8] at hf;have e:cur[t]?=(dK l[t / 2])[t % 2]?:=(by simpa using hf);rw[e,get_flatK _ _ _ _ (by simpa using E8)];have e3:l.toArray[t / 2]! =l[t / 2]:=(by rw[getElem!_pos l.toArray (t / 2) (by simpa using hq)];simp);have lW:t % 2<(dK l[t / 2]).length:=Nat.mod_lt _ zD;rw[e3,z6 lW,getElem!_pos (dK l[t / 2]) (t % 2) lW];rfl
theorem PE{n:Nat}{os:Array Obj}(d:Array Nm):w.grownBy (sortWorldK dK 2 w g 0 n d os) (some g):=by
 refine⟨rfl,rfl,rfl,?_,λk hk dD=>?_⟩
 ·show w.heap.size<=((putRowK dK 2 (Sort.ahead w n) g 0 d).heap++os).size;rw[Array.size_append];have:(putRowK dK 2 (Sort.ahead w n) g 0 d).heap.size=w.heap.size:=size_putRow id (Sort.ahead w n) g 0 _;omega
 show ((putRowK dK 2 (Sort.ahead w n) g 0 d).heap++os)[k]?=w.heap[k]?;have hs:(putRowK dK 2 (Sort.ahead w n) g 0 d).heap.size=w.heap.size:=size_putRow id (Sort.ahead w n) g 0 _;rw[Array.getElem?_append_left zO];show (w.heap.modify g _)[k]?=w.heap[k]?;rw[Array.getElem?_modify,j5 (λe=>dD (by rw[e]))]
theorem akr(base:Nat)(l:List Nm)(v:Value)(w:World)(vP:ax w base 23 2 dK l v)(hB:base<=w)(hl:l.length<4000000):
 Cl 119 #[v,.func (.func 144) #[] #[]] w λe w'=>e= .returned (.tuple #[])/\(∃A c ns,v= .slice A ns.length c/\ns.Perm l/\ns.Pairwise (λx y=>jg y x=false)/\aY w' (λb=>base<=b) 2 dK ns A ns.length/\ns.length<=c)/\Below base w w':=by
 rcases vP.2 with ⟨rfl,hn⟩ | ⟨g,cap,cur,rfl,hg,hh,GK,yg,mP,kU⟩
 ·have Me:l=[]:=g9 hn;subst Me;have h:=AnyF.slices_SortFunc_none Tryz.Xv none 0 (.func (.func 144) #[] #[]) w;refine Calls.mono (P:=prog) (f:=119) h ?_;rintro e w' ⟨rfl,rfl⟩;exact⟨rfl,⟨none,0,[],rfl,List.Perm.refl _,List.Pairwise.nil,aY.nil _ _ _ _ _,zR _⟩,j9 _ _⟩
 have dD:g<w:=aC hh;have h:=AnyQ.slices_SortFunc_total Tryz.Xv 2 (λw=>by kernel_rfl) (λw=>by kernel_rfl) dK wX (λx u hu=>by simp[dK] at hu;rcases hu with rfl | rfl<;>rfl) Iw aBJ 144 #[] g 0 cap l.toArray w (enters_of func144 zK rfl) (am4 _ _ _ _) (yE hh kU) dD zS1 (λx y h k=>by rw[zl] at h k;exact vZ h k);rw[YV] at h;refine Calls.mono (P:=prog) (f:=119) h ?_;rintro e w' ⟨rfl,n,os,rfl⟩;obtain⟨ns,Jh⟩:=zF ((l.toArray.toList.mergeSort λx y=>!(ltOf Iw) y x));have hp:ns.Perm l:=(by rw[<-Jh];exact List.mergeSort_perm _ _)
 have zo:ns.Pairwise (λx y=>jg y x=false):=by
  have:=List.pairwise_mergeSort (le:=λx y=>!(ltOf Iw) y x) (λa b c h1 h2=>by
   simp only[zl,Bool.not_eq_true'] at*
   exact zM h2 h1) (λa b=>by
   simp only[zl]
   cases h1:jg b a with
   | false=>rfl
   | true=>
     cases h2:jg a b with
     | false=>rfl
     | true=>have:=vY h1 h2;rw[tH] at this;cases this) l.toArray.toList
  rw[Jh] at this;exact this.imp λh=>(by simpa[zl] using h)
 rw[Jh];have hlen:ns.length=l.length:=hp.length_eq;have hH:=holdsK_sortWorldK dK 2 w g 0 n l.toArray ns.toArray os dD (yE hh kU) (by simp[hlen]);refine⟨rfl,⟨g,cap,ns,by rw[hlen],hp,zo,⟨rfl,λ_=>⟨g,0,rfl,hg,Kq hH⟩⟩,zO⟩,?_⟩;have fO:=PE (w:=w) (g:=g) (n:=n) (os:=os) ns.toArray;exact⟨fO.os,fO.tape,fO.output,fO.size,λk hk=>fO.block k zO (λe=>by have:=zI e;omega)⟩
end
section
open Go.Sort Go.Shelf
theorem agy{l':List Nat}(kU:cur.size=cap*1)(hg:base<=g)(yg:cap<=maxLen)(hh:w'.heap[g]?=some (.cells cur' 3 (0,0)))(hs:cur'.size=cur.size)(hl:l'.length<=cap)
 (hc:∀(j x:Nat),l'[j]?=x->cur'[j]?=Value.int .i64 (x:Int)):ax w' base 3 1 aV l' (g,0,l'.length,cap):=by
 refine⟨tX jd _,.inr ⟨g,cap,cur',rfl,hg,hh,hl,yg,by rw[hs,kU],?_⟩⟩;apply List.ext_getElem?;intro j;by_cases hj:j<l'.length
 ·rw[Za zO];have hx:l'[j]?=l'[j]'hj:=z6 hj;have h1:=flat_get jd l' j 0 _ hx zD;rw[Nat.mul_one,Qf] at h1;rw[h1];have h2:=hc j _ hx;rw[Array.getElem?_toList,h2];rfl
 rw[JT (by rw[Ju];omega),JT (by rw[tX jd];omega)]
def jQ(l:List Nat):List Int:=l.map λx:Nat=>(x:Int)
theorem BC(h:j<(jQ l).length):(jQ l).toArray[j]! =((l[j]'(by simpa[jQ] using h):Nat):Int):=by
 rw[getElem!_pos _ j (by simpa using h)];simp[jQ]
theorem aay(hg:w.heap[g]?=some (.cells cur 3 (0,0)))(hc:cur.toList.take (l.length*1)=l.flatMap aV):Holds (Value.int .i64) w g 0 (jQ l).toArray:=by
 intro j hj;have GL:j<l.length:=(by simpa[jQ] using hj);refine⟨?_,k8 w g _ _ _ hg⟩;rw[d9,Ys w g _ _ _ _ hg,BC (by simpa using hj)];have hx:l[j]?=l[j]'GL:=z6 GL;have h1:=flat_get jd l j 0 _ hx zD;rw[Nat.mul_one,Qf,<-hc,Za zO] at h1;rw[<-Array.getElem?_toList];exact h1
theorem aaz(w:World)(g q:Nat)(d:Array Int)(os:Array Obj)(cur:Array Value)(hg:w.heap[g]?=some (.cells cur 3 (0,0)))(hd:d.size<=cur.size):
 ∃cur',(grow (putRow (Value.int .i64) (Sort.ahead w q) g 0 d) os).heap[g]?=some (.cells cur' 3 (0,0))/\cur'.size=cur.size/\(∀j,j<d.size->cur'[j]?=some (.int .i64 d[j]!))/\w.grownBy (grow (putRow (Value.int .i64) (Sort.ahead w q) g 0 d) os) (some g):=by
 have aN:=aC hg;have hs:(putRow (Value.int .i64) (Sort.ahead w q) g 0 d).heap.size=w.heap.size:=size_putRow _ (Sort.ahead w q) g 0 d;refine⟨putCells (Value.int .i64) 0 d cur,?_,by unfold putCells;simp,λj hj=>?_,rfl,rfl,rfl,?_,λk hk dD=>?_⟩
 ·show ((putRow (Value.int .i64) (Sort.ahead w q) g 0 d).heap++os)[g]?=_;rw[Array.getElem?_append_left zO];show (w.heap.modify g (onCells _))[g]?=_;rw[Array.getElem?_modify,j6 rfl,hg];rfl
 ·have hj2:j<cur.size:=zO;simp only[putCells,Array.getElem?_mapIdx,Array.getElem?_eq_getElem hj2,Option.map_some];rw[j6 ⟨zO,zO⟩];rfl
 ·show w.heap.size<=((putRow (Value.int .i64) (Sort.ahead w q) g 0 d).heap++os).size;rw[Array.size_append];omega
 show ((putRow (Value.int .i64) (Sort.ahead w q) g 0 d).heap++os)[k]?=w.heap[k]?;rw[Array.getElem?_append_left zO];show (w.heap.modify g (onCells _))[k]?=_;rw[Array.getElem?_modify,j5 (λe=>dD (by rw[e]))]
theorem aaA(base:Nat)(l:List Nat)(v:Value)(w:World)(h:ax w base 3 1 aV l v)(hl:l.length<1000000000000):
 Cl 84 #[v] w λe w'=>e= .returned (.tuple #[])/\∃l':List Nat,l'.Perm l/\l'.Pairwise (· <= ·)/\ax w' base 3 1 aV l' v/\w.grownBy w' v.ownBlock:=by
 rcases h.2 with ⟨rfl,hn⟩ | ⟨g,cap,cur,rfl,hg,hh,GK,yg,mP,kU⟩
 ·have Me:l=[]:=g9 hn;subst Me;refine Calls.mono (P:=prog) (f:=84) (Tryz.slices_Sort_int_none none 0 w) ?_;rintro e w' ⟨rfl,rfl⟩;exact⟨rfl,[],List.Perm.refl _,List.Pairwise.nil,ax.nil _ _ _ _ _,⟨rfl,rfl,rfl,zR _,λ_ _ _=>rfl⟩⟩
 have hlen:(jQ l).length=l.length:=(by simp[jQ]);have h1:=Tryz.slices_Sort_int g 0 cap (jQ l) w (aay hh kU) (aC hh) zO;rw[hlen] at h1;refine Calls.mono (P:=prog) (f:=84) h1 ?_;rintro e w' ⟨rfl,q,os,rfl⟩;obtain⟨l',zS⟩:∃l':List Nat,l.mergeSort (λx y=>decide (x<=y))=l':=⟨_,rfl⟩;have hp:l'.Perm l:=(by rw[<-zS];exact List.mergeSort_perm _ _)
 have zo:l'.Pairwise (· <= ·):=by
  have:=List.pairwise_mergeSort (le:=λx y:Nat=>decide (x<=y)) (λa b c h1 h2=>by simp at*;omega) (λa b=>by simp;omega) l;rw[zS] at this;exact this.imp λh=>(by simpa using h)
 have hz:(jQ l).mergeSort (λx y=>decide (x<=y))=jQ l':=by
  have Kz:((jQ l).mergeSort (λx y=>decide (x<=y))).Perm (jQ l'):=(List.mergeSort_perm _ _).trans (hp.symm.map _)
  have nC:((jQ l).mergeSort (λx y=>decide (x<=y))).Pairwise (· <= ·):=by
   have:=List.pairwise_mergeSort (le:=λx y:Int=>decide (x<=y)) (λa b c h1 h2=>by simp at*;omega) (λa b=>by simp;omega) (jQ l);exact this.imp λh=>(by simpa using h)
  have uS:(jQ l').Pairwise (· <= ·):=by
   unfold jQ;rw[List.pairwise_map];exact zo.imp λh=>zO
  exact List.Perm.eq_of_pairwise (λa b _ _ h1 h2=>by omega) nC uS Kz
 rw[hz];have hll:l'.length=l.length:=hp.length_eq;obtain⟨cur',c1,c2,c3,c4⟩:=aaz w g q (jQ l').toArray os cur hh (by simp[jQ,hll];omega);refine⟨rfl,l',hp,zo,?_,c4⟩;rw[<-hll];refine agy mP hg yg c1 c2 zO λj x hx=>?_;have hj:j<l'.length:=(z4.1 hx).1;rw[c3 j (by simp[jQ];exact hj),BC (by simp[jQ];exact hj)];obtain⟨_,rfl⟩:=z4.1 hx;rfl
theorem anr(h:x∈l):sset (l++[x])=sset l:=
 (WG (qW _) (qW _) λy=>by rw[wI,wI,z12,og];exact⟨λh'=>h'.elim id (λe=>e ▸ h),.inl⟩)
theorem ant(h:∀y∈l,y<x):sset (l++[x])=sset l++[x]:=by
 refine WG (qW _) ?_ λy=>(by rw[wI,z12,z12,wI]);rw[List.pairwise_append];exact⟨qW _,zP,λa ha b hb=>by rw[og.1 hb];exact h a (wI.1 ha)⟩
theorem adp(h:l.Pairwise (· <= ·)):Lib.compact (jQ l)=jQ (sset l):=by
 have key:∀m,m<=l.length->Lib.compactUpTo (jQ l).toArray m=jQ (sset (l.take m)):=by
  intro m
  induction m with
  | zero=>intro _;rfl
  | succ m ih=>
    intro hm;have hlen:(jQ l).length=l.length:=(by simp[jQ]);rw[Lib.compactUpTo_succ,ih zO,List.take_add_one,z6 (by omega:m<l.length),Option.toList_some,BC zO];rw[List.pairwise_iff_getElem] at h;by_cases hk:Lib.keeps (jQ l).toArray m=true
    ·rw[j6 hk,ant]
     ·simp[jQ]
     intro y hy;obtain⟨j,hj,rfl⟩:=List.getElem_of_mem hy;rw[Ju] at hj;rw[List.getElem_take];have h1:m≠0:=zO;unfold Lib.keeps at hk;simp only[gy] at hk
     rcases hk with hk | hk
     ·exact absurd hk h1
     rw[BC zO,BC zO] at hk;have h2:=h (m - 1) m zO zO zO;have h3:l[m - 1]'zO<l[m]'zO:=zO
     rcases i8 j (m - 1) with h4 | h4
     ·have:=h j (m - 1) zO zO h4;omega
     have:j=m - 1:=zO;subst this;exact h3
    rw[j5 hk,m8,anr];unfold Lib.keeps at hk;simp only[gy,not_or,ne_eq,Decidable.not_not] at hk;have h1:=hk.2;rw[BC zO,BC zO] at h1;have h2:l[m]'zO=l[m - 1]'zO:=zO;rw[h2];exact List.mem_take_iff_getElem.2 ⟨m - 1,zO,rfl⟩
 have:=key l.length (zR _);rw[List.take_length] at this;unfold Lib.compact;rwa [show (jQ l).length=l.length by simp[jQ]]
theorem adq:∀l:List Nat,(sset l).length<=l.length
 | []=>zR _
 | x::l=>by
   have h1:=adq l
   have h2:∀l:List Nat,(Ey x l).length<=l.length+1:=by
    intro l
    induction l with
    | nil=>simp[Ey]
    | cons y l ih=>rw[Ey];split;simp;split;simp;simp;exact ih
   have:=h2 (sset l);show (Ey x (sset l)).length<=_;simp;omega
theorem RX(base:Nat)(l:List Nat)(v:Value)(w:World)(h:ax w base 3 1 aV l v)(hs:l.Pairwise (· <= ·))(hl:l.length<1000000000000):
 Cl 85 #[v] w λe w'=>∃v',e= .returned v'/\ax w' base 3 1 aV (sset l) v'/\w.grownBy w' v.ownBlock/\v'.ownBlock=v.ownBlock:=by
 rcases h.2 with ⟨rfl,hn⟩ | ⟨g,cap,cur,rfl,hg,hh,GK,yg,mP,kU⟩
 ·have Me:l=[]:=g9 hn;subst Me;refine Calls.mono (P:=prog) (f:=85) (Tryz.slices_Compact_int_empty none 0 w) ?_;rintro e w' ⟨rfl,rfl⟩;exact⟨_,rfl,ax.nil _ _ _ _ _,⟨rfl,rfl,rfl,zR _,λ_ _ _=>rfl⟩,rfl⟩
 have hlen:(jQ l).length=l.length:=(by simp[jQ]);have h1:=Tryz.slices_Compact_int g 0 cap (jQ l) w (aay hh kU) zO zO;rw[hlen,adp hs] at h1;refine Calls.mono (P:=prog) (f:=85) h1 ?_;rintro e w' ⟨rfl,q,rfl⟩;have XI:=adq l;have jU:(jQ (sset l)).length=(sset l).length:=(by simp[jQ]);obtain⟨cur',c1,c2,c3,c4⟩:=aaz w g q (jQ (sset l)++List.replicate (l.length - (jQ (sset l)).length) 0).toArray #[] cur hh (by simp[jU];omega);rw[grow_empty] at c1 c4;refine⟨_,rfl,?_,c4,rfl⟩;have e:=agy (l':=sset l) mP hg yg c1 c2 zO λj x hx=>?_
 ·rw[<-jU] at e;exact e
 have hj:j<(sset l).length:=(z4.1 hx).1;rw[c3 j (by simp[jU];omega),getElem!_pos _ j (by simp[jU];omega)];obtain⟨_,rfl⟩:=z4.1 hx;simp[jQ,hj]
theorem ad3{l':List ByteArray}(kU:cur.size=cap*1)(hg:base<=g)(yg:cap<=maxLen)(hh:w'.heap[g]?=some (.cells cur' 9 (0,0)))(hs:cur'.size=cur.size)(hl:l'.length<=cap)
 (hc:∀(j:Nat) (x:ByteArray),l'[j]?=x->cur'[j]?=Value.string x):ax w' base 9 1 mG l' (g,0,l'.length,cap):=by
 refine⟨tX Ii _,.inr ⟨g,cap,cur',rfl,hg,hh,hl,yg,by rw[hs,kU],?_⟩⟩;apply List.ext_getElem?;intro j;by_cases hj:j<l'.length
 ·rw[Za zO];have hx:l'[j]?=l'[j]'hj:=z6 hj;have h1:=flat_get Ii l' j 0 _ hx zD;rw[Nat.mul_one,Qf] at h1;rw[h1];have h2:=hc j _ hx;rw[Array.getElem?_toList,h2];rfl
 rw[JT (by rw[Ju];omega),JT (by rw[tX Ii];omega)]
def fU(l:List ByteArray):List (List UInt8):=l.map λb=>b.data.toList
theorem ad4{l:List ByteArray}(h:j<(fU l).length):(fU l).toArray[j]! =(l[j]'(by simpa[fU] using h)).data.toList:=by
 rw[getElem!_pos _ j (by simpa using h)];simp[fU]
theorem X7{l:List ByteArray}(hg:w.heap[g]?=some (.cells cur 9 (0,0)))(hc:cur.toList.take (l.length*1)=l.flatMap mG):Holds encStr w g 0 (fU l).toArray:=by
 intro j hj;have GL:j<l.length:=(by simpa[fU] using hj);refine⟨?_,k8 w g _ _ _ hg⟩;rw[d9,Ys w g _ _ _ _ hg,ad4 (by simpa using hj)];have hx:l[j]?=l[j]'GL:=z6 GL;have h1:=flat_get Ii l j 0 _ hx zD;rw[Nat.mul_one,Qf,<-hc,Za zO] at h1;rw[<-Array.getElem?_toList];exact h1
theorem X8(w:World)(g q:Nat)(d:Array (List UInt8))(os:Array Obj)(cur:Array Value)(hg:w.heap[g]?=some (.cells cur 9 (0,0)))(hd:d.size<=cur.size):
 ∃cur',(grow (putRow encStr (Sort.ahead w q) g 0 d) os).heap[g]?=some (.cells cur' 9 (0,0))/\cur'.size=cur.size/\(∀j,j<d.size->cur'[j]?=some (.string ⟨d[j]!.toArray⟩))/\w.grownBy (grow (putRow encStr (Sort.ahead w q) g 0 d) os) (some g):=by
 have aN:=aC hg;have hs:(putRow encStr (Sort.ahead w q) g 0 d).heap.size=w.heap.size:=size_putRow _ (Sort.ahead w q) g 0 d;refine⟨putCells encStr 0 d cur,?_,by unfold putCells;simp,λj hj=>?_,rfl,rfl,rfl,?_,λk hk dD=>?_⟩
 ·show ((putRow encStr (Sort.ahead w q) g 0 d).heap++os)[g]?=_;rw[Array.getElem?_append_left zO];show (w.heap.modify g (onCells _))[g]?=_;rw[Array.getElem?_modify,j6 rfl,hg];rfl
 ·have hj2:j<cur.size:=zO;simp only[putCells,Array.getElem?_mapIdx,Array.getElem?_eq_getElem hj2,Option.map_some];rw[j6 ⟨zO,zO⟩];rfl
 ·show w.heap.size<=((putRow encStr (Sort.ahead w q) g 0 d).heap++os).size;rw[Array.size_append];omega
 show ((putRow encStr (Sort.ahead w q) g 0 d).heap++os)[k]?=w.heap[k]?;rw[Array.getElem?_append_left zO];show (w.heap.modify g (onCells _))[k]?=_;rw[Array.getElem?_modify,j5 (λe=>dD (by rw[e]))]
theorem alk(base:Nat)(l:List ByteArray)(v:Value)(w:World)(h:ax w base 9 1 mG l v)(hl:l.length<1000000000000):
 Cl 122 #[v] w λe w'=>e= .returned (.tuple #[])/\∃l':List ByteArray,l'.Perm l/\fU l'=(fU l).mergeSort (λx y=>decide (x<=y))/\ax w' base 9 1 mG l' v/\w.grownBy w' v.ownBlock:=by
 rcases h.2 with ⟨rfl,hn⟩ | ⟨g,cap,cur,rfl,hg,hh,GK,yg,mP,kU⟩
 ·have Me:l=[]:=g9 hn;subst Me;refine Calls.mono (P:=prog) (f:=122) (Tryz.slices_Sort_string_none none 0 w) ?_;rintro e w' ⟨rfl,rfl⟩;exact⟨rfl,[],List.Perm.refl _,by simp[fU],ax.nil _ _ _ _ _,⟨rfl,rfl,rfl,zR _,λ_ _ _=>rfl⟩⟩
 have hlen:(fU l).length=l.length:=(by simp[fU]);have h1:=Tryz.slices_Sort_string g 0 cap (fU l) w (X7 hh kU) (aC hh) zO;rw[hlen] at h1;refine Calls.mono (P:=prog) (f:=122) h1 ?_;rintro e w' ⟨rfl,q,os,rfl⟩
 have back:∀l:List ByteArray,(fU l).map (λs=>(⟨s.toArray⟩:ByteArray))=l:=λl=>by
  unfold fU;rw[List.map_map]
  conv=>rhs;rw[<-List.map_id l]
  exact List.map_congr_left λx _=>by simp
 have axX:∀ss:List (List UInt8),fU (ss.map λs=>(⟨s.toArray⟩:ByteArray))=ss:=λss=>by
  unfold fU;rw[List.map_map]
  conv=>rhs;rw[<-List.map_id ss]
  exact List.map_congr_left λx _=>by simp
 obtain⟨l',zS⟩:∃l':List ByteArray,((fU l).mergeSort (λx y=>decide (x<=y))).map (λs=>(⟨s.toArray⟩:ByteArray))=l':=⟨_,rfl⟩;have hz:fU l'=(fU l).mergeSort (λx y=>decide (x<=y)):=(by rw[<-zS];exact axX _)
 have hp:l'.Perm l:=by
  rw[<-zS];have:=(List.mergeSort_perm (fU l) (λx y=>decide (x<=y))).map (λs=>(⟨s.toArray⟩:ByteArray));rwa [back] at this
 rw[<-hz];have hll:l'.length=l.length:=hp.length_eq;obtain⟨cur',c1,c2,c3,c4⟩:=X8 w g q (fU l').toArray os cur hh (by simp[fU,hll];omega);refine⟨rfl,l',hp,hz ▸ rfl,?_,c4⟩;rw[<-hll];refine ad3 mP hg yg c1 c2 zO λj x hx=>?_;have hj:j<l'.length:=(z4.1 hx).1;rw[c3 j (by simp[fU];exact hj),ad4 (by simp[fU];exact hj)];obtain⟨_,rfl⟩:=z4.1 hx;simp
def UY(ss:List (List UInt8)):List ByteArray:=ss.map λs=>⟨s.toArray⟩
theorem anV(ss:List (List UInt8)):fU (UY ss)=ss:=by
 unfold fU UY;rw[List.map_map]
 conv=>rhs;rw[<-List.map_id ss]
 exact List.map_congr_left λx _=>by simp
theorem anW(l:List ByteArray):UY (fU l)=l:=by
 unfold fU UY;rw[List.map_map]
 conv=>rhs;rw[<-List.map_id l]
 exact List.map_congr_left λx _=>by simp
theorem PR(d:Array (List UInt8)):∀m,(Lib.compactUpTo d m).length<=m
 | 0=>zR _
 | m+1=>by
   have:=PR d m;rw[Lib.compactUpTo_succ,z5]
   split
   ·simp;omega
   simp;omega
theorem ad5(base:Nat)(l:List ByteArray)(v:Value)(w:World)(h:ax w base 9 1 mG l v)(hl:l.length<1000000000000):
 Cl 123 #[v] w λe w'=>∃v',e= .returned v'/\ax w' base 9 1 mG (UY (Lib.compact (fU l))) v'/\w.grownBy w' v.ownBlock/\v'.ownBlock=v.ownBlock:=by
 rcases h.2 with ⟨rfl,hn⟩ | ⟨g,cap,cur,rfl,hg,hh,GK,yg,mP,kU⟩
 ·have Me:l=[]:=g9 hn;subst Me;refine Calls.mono (P:=prog) (f:=123) (Tryz.slices_Compact_string_empty none 0 w) ?_;rintro e w' ⟨rfl,rfl⟩;exact⟨_,rfl,ax.nil _ _ _ _ _,⟨rfl,rfl,rfl,zR _,λ_ _ _=>rfl⟩,rfl⟩
 have hlen:(fU l).length=l.length:=(by simp[fU]);have h1:=Tryz.slices_Compact_string g 0 cap (fU l) w (X7 hh kU) zO zO
 have XI:(Lib.compact (fU l)).length<=l.length:=by
  have:=PR (fU l).toArray (fU l).length;unfold Lib.compact;omega
 obtain⟨l',zS⟩:∃l',UY (Lib.compact (fU l))=l':=⟨_,rfl⟩;have hc:Lib.compact (fU l)=fU l':=(by rw[<-zS,anV]);rw[hlen,hc] at h1;rw[hc] at XI;rw[zS];refine Calls.mono (P:=prog) (f:=123) h1 ?_;rintro e w' ⟨rfl,q,rfl⟩;have jU:(fU l').length=l'.length:=(by simp[fU]);obtain⟨cur',c1,c2,c3,c4⟩:=X8 w g q (fU l'++List.replicate (l.length - (fU l').length) []).toArray #[] cur hh (by simp[jU];omega);rw[grow_empty] at c1 c4;refine⟨_,rfl,?_,c4,rfl⟩;have e:=ad3 (l':=l') mP hg yg c1 c2 zO λj x hx=>?_
 ·rw[<-jU] at e;exact e
 have hj:j<l'.length:=(z4.1 hx).1;rw[c3 j (by simp[jU];omega),getElem!_pos _ j (by simp[jU];omega)];obtain⟨_,rfl⟩:=z4.1 hx;simp[fU,hj]
def Gr(w w':World):Prop:=∃q os',w'=grow (w.drewN q) os'
theorem Gr.refl(w:World):Gr w w:=⟨0,#[],by simp[grow,World.drewN]⟩
theorem Gr.trans{a b c:World}(h:Gr a b)(k:Gr b c):Gr a c:=by
 obtain⟨q,os,rfl⟩:=h;obtain⟨q',os',rfl⟩:=k;exact⟨q+q',os++os',by simp[grow,World.drewN,Array.append_assoc,Nat.add_assoc]⟩
theorem Gr.alloc(w:World)(o:Obj):Gr w (w.alloc o):=⟨0,#[o],by rw[alloc_eq_grow];rfl⟩
theorem Gr.below(h:Gr w w'):Bw w w':=by
 obtain⟨q,os,rfl⟩:=h;exact⟨rfl,rfl,rfl,by simp[grow,World.drewN],λk hk=>by simp[grow,World.drewN,Array.getElem?_append_left hk]⟩
theorem aaM(a b c d:ByteArray)(w:World):
 Cl 78 #[.agg #[a,b],.agg #[c,d]] w λe w'=>e= .returned (jg (a,b) (c,d))/\Gr w w':=by
 have HG:Hid (Gr w ((w.alloc (Zc #[a,b] 23)).alloc (Zc #[c,d] 23))):=zH ((Gr.alloc _ _).trans (Gr.alloc _ _));obtain⟨w1,bI,ai,ag,bY,aH⟩:=ed w (Zc #[a,b] 23) (Zc #[c,d] 23);rw[bI] at HG;have q0:=dw ai;have r0:=dw ag;have HL:=zH (afx (a,b) (c,d));clear ai ag;go_enter func78,ntmps78;go_wp2_with fail;refine (RI a b c d _).mono ?_;rintro e w2 ⟨rfl,ag⟩;have xC:Hid (Gr w w2):=zH (HG.trans ag);clear ag;go_wp2_with fail;go_ret;exact⟨aK HL,xC⟩
def cmpL(x y:Nm):Int:=if jg x y then -1 else if jg y x then 1 else 0
theorem abh(a b c d:ByteArray)(w:World):
 Cl 120 #[.agg #[a,b],.agg #[c,d]] w λe w'=>e= .returned (cmpL (a,b) (c,d))/\Gr w w':=by
 have HG:Hid (Gr w ((w.alloc (Zc #[a,b] 23)).alloc (Zc #[c,d] 23))):=zH ((Gr.alloc _ _).trans (Gr.alloc _ _));obtain⟨w1,bI,ai,ag,bY,aH⟩:=ed w (Zc #[a,b] 23) (Zc #[c,d] 23);rw[bI] at HG;obtain⟨q0,r0,aQ,gY⟩:=zK4 (dw ai) (dw ag) (zH ai) (zH ag);obtain⟨v1,hv1⟩:=zF (jg (a,b) (c,d));obtain⟨v2,Ue⟩:=zF (jg (c,d) (a,b));have HC:Hid (cmpL (a,b) (c,d)=if v1 then -1 else if v2 then 1 else 0):=zH (by unfold cmpL;rw[hv1,Ue]);have L1:=zH (aaM a b c d w1);have L2:=zH (aaM c d a b);rw[hv1] at L1;rw[Ue] at L2;clear ai ag hv1 Ue;cases v1
 ·cases v2
  all_goals
   go_enter func120,ntmps120;go_wp2_with fail;refine L1.mono ?_;rintro e w2 ⟨rfl,g2⟩;have ag:=g2.below;clear q0 r0;have q0:=dw (ae aQ ag);have r0:=dw (ae gY ag);have xC:=zH (HG.trans g2);clear g2;go_wp2_with fail;refine (L2 w2).mono ?_;rintro e w3 ⟨rfl,g3⟩;have HG3:=zH (xC.trans g3);clear g3;go_wp2_with fail;go_ret;exact⟨iU (by rw[HC.out];rfl),HG3⟩
 go_enter func120,ntmps120;go_wp2_with fail;refine L1.mono ?_;rintro e w2 ⟨rfl,g2⟩;have xC:=zH (HG.trans g2);clear g2;go_wp2_with fail;go_ret;exact⟨iU (by rw[HC.out];rfl),xC⟩
theorem anU(blk off size:Nat)(w:World):CmpLays prog 120 #[] dK 2 cmpL blk off size w:=λ_ _ _ _ x y=>abh x.1 x.2 y.1 y.2 _
theorem zB(x y:Nm):ltOf cmpL x y=jg x y:=by
 show decide (cmpL x y<0)=jg x y;unfold cmpL;cases jg x y
 ·cases jg y x<;>rfl
 rfl
theorem aCl:SWO (ltOf cmpL):=⟨λx=>by rw[zB];exact tH x,λx y z h k=>by rw[zB] at*;exact vY h k,λx y z h k=>by rw[zB] at*;exact zM h k⟩
end
theorem X6(w:World)(ty:TypeId)(b o n c:Nat)(hn:0<n)(hc:∀j,j<n*2->(w.cell? ⟨b,o+j,none⟩).isSome=true)(hf:∀j,j<n*2->w.frozen? ⟨b,o+j,none⟩=false):
 (Builtin.clear_ #[37] ty #[(b,o,n,c)]).run prog w= .ok (.tuple #[]) (w.setCells b o (List.replicate (n*2) (.string ⟨#[]⟩))):=by
 have hzc:(Builtin.zeroCells #[.string ⟨#[]⟩,.string ⟨#[]⟩] n).toList=List.replicate (n*2) (Value.string ⟨#[]⟩):=by
  simp[Builtin.zeroCells];apply List.ext_getElem
  ·simp
  intro i h1 h2;have h3:i % 2=0\/i % 2=1:=zO
  rcases h3 with h3 | h3<;>simp[h3]
 have bZ:=run_storeCells_cells (P:=prog) b o (List.replicate (n*2) (.string ⟨#[]⟩)) 0 w (by simpa using hc) (by simpa using hf) (by intro v hv';rw[List.eq_of_mem_replicate hv'];rfl);simp only[Qf] at bZ;obtain⟨m,rfl⟩:∃m,n=m+1:=⟨n - 1,zO⟩;have hz:∀w,(zeroValue 23).run prog w= .ok (.agg #[.string ⟨#[]⟩,.string ⟨#[]⟩]) w:=λw=>zS2;have aaF:(Value.agg #[.string ⟨#[]⟩,.string ⟨#[]⟩]).cells= #[.string ⟨#[]⟩,.string ⟨#[]⟩]:=rfl;simp[Builtin.clear_,run_underlying underlying37,hz,aaF,hzc,bZ]
