import Derived.Test.YtgmnnegfndpakaaGreatDoorG32
import Derived.Test.YtgmnnegfndpakaaGreatDoorMdlB
set_option maxHeartbeats 20000000
set_option maxRecDepth 100000
namespace Go.Proofs.YtgmnnegfndpakaaGreatDoor
open Go.RowKit
open Go.Sort Go.Shelf
theorem agy{w':World}{base g cap:Nat}{l':List Nat}{cur cur':Array Value}(kU:cur.size=cap*1)(hg:base<=g)(yg:cap<=maxLen)(hh:w'.heap[g]?=some (.cells cur' 3 (0,0)))(hs:cur'.size=cur.size)(hl:l'.length<=cap)
 (hc:∀(j x:Nat),l'[j]?=some x->cur'[j]?=some (Value.int .i64 (x:Int))):ax w' base 3 1 aV l' (.slice (some ⟨g,0,none⟩) l'.length cap):=by
 refine⟨tX jd _,.inr ⟨g,cap,cur',rfl,hg,hh,hl,yg,by rw[hs,kU],?_⟩⟩;apply List.ext_getElem?;intro j;by_cases hj:j<l'.length
 ·rw[List.getElem?_take_of_lt zO]
  have hx:l'[j]?=some (l'[j]'hj):=z6 hj;have h1:=flat_get jd l' j 0 _ hx zD;rw[Nat.mul_one,Nat.add_zero] at h1;rw[h1];have h2:=hc j _ hx;rw[Array.getElem?_toList,h2];rfl
 ·rw[List.getElem?_eq_none (by rw[List.length_take];omega),List.getElem?_eq_none (by rw[tX jd];omega)]
def jQ(l:List Nat):List Int:=l.map λx:Nat=>(x:Int)
theorem BC{l:List Nat}{j:Nat}(h:j<(jQ l).length):(jQ l).toArray[j]! =((l[j]'(by simpa[jQ] using h):Nat):Int):=by
 rw[getElem!_pos _ j (by simpa using h)];simp[jQ]
theorem aay{w:World}{g:Nat}{l:List Nat}{cur:Array Value}(hg:w.heap[g]?=some (.cells cur 3 (0,0)))(hc:cur.toList.take (l.length*1)=l.flatMap aV):Holds (Value.int .i64) w g 0 (jQ l).toArray:=by
 intro j hj
 have GL:j<l.length:=by simpa[jQ] using hj
 refine⟨?_,frozen_of_row w g _ _ _ hg⟩;rw[Nat.zero_add,cell_of_row w g _ _ _ _ hg,BC (by simpa using hj)];have hx:l[j]?=some (l[j]'GL):=z6 GL;have h1:=flat_get jd l j 0 _ hx zD;rw[Nat.mul_one,Nat.add_zero,<-hc,List.getElem?_take_of_lt zO] at h1;rw[<-Array.getElem?_toList];exact h1
theorem aaz(w:World)(g q:Nat)(d:Array Int)(os:Array Obj)(cur:Array Value)(hg:w.heap[g]?=some (.cells cur 3 (0,0)))(hd:d.size<=cur.size):
 ∃cur',(grow (putRow (Value.int .i64) (Sort.ahead w q) g 0 d) os).heap[g]?=some (.cells cur' 3 (0,0))/\cur'.size=cur.size/\(∀j,j<d.size->cur'[j]?=some (.int .i64 d[j]!))/\w.grownBy (grow (putRow (Value.int .i64) (Sort.ahead w q) g 0 d) os) (some g):=by
 have aN:=aC hg;have hs:(putRow (Value.int .i64) (Sort.ahead w q) g 0 d).heap.size=w.heap.size:=size_putRow _ (Sort.ahead w q) g 0 d;refine⟨putCells (Value.int .i64) 0 d cur,?_,by unfold putCells;simp,λj hj=>?_,rfl,rfl,rfl,?_,λk hk dD=>?_⟩
 ·show ((putRow (Value.int .i64) (Sort.ahead w q) g 0 d).heap++os)[g]?=_
  rw[Array.getElem?_append_left zO];show (w.heap.modify g (onCells _))[g]?=_;rw[Array.getElem?_modify,if_pos rfl,hg];rfl
 ·have hj2:j<cur.size:=by omega
  simp only[putCells,Array.getElem?_mapIdx,Array.getElem?_eq_getElem hj2,Option.map_some];rw[if_pos ⟨zO,zO⟩];rfl
 ·show w.heap.size<=((putRow (Value.int .i64) (Sort.ahead w q) g 0 d).heap++os).size
  rw[Array.size_append];omega
 ·show ((putRow (Value.int .i64) (Sort.ahead w q) g 0 d).heap++os)[k]?=w.heap[k]?
  rw[Array.getElem?_append_left zO];show (w.heap.modify g (onCells _))[k]?=_;rw[Array.getElem?_modify,if_neg (λe=>dD (by rw[e]))]
theorem aaA(base:Nat)(l:List Nat)(v:Value)(w:World)(h:ax w base 3 1 aV l v)(hl:l.length<1000000000000):
 Calls Tryz.prog 84 #[v] w λe w'=>e= .returned (.tuple #[])/\∃l':List Nat,l'.Perm l/\l'.Pairwise (· <= ·)/\ax w' base 3 1 aV l' v/\w.grownBy w' v.ownBlock:=by
 rcases h.2 with ⟨rfl,hn⟩ | ⟨g,cap,cur,rfl,hg,hh,GK,yg,mP,kU⟩
 ·have Me:l=[]:=List.eq_nil_of_length_eq_zero hn
  subst Me;refine Calls.mono (P:=Tryz.prog) (f:=84) (Tryz.slices_Sort_int_none none 0 w) ?_;rintro e w' ⟨rfl,rfl⟩;exact⟨rfl,[],List.Perm.refl _,List.Pairwise.nil,ax.nil _ _ _ _ _,⟨rfl,rfl,rfl,zR _,λ_ _ _=>rfl⟩⟩
 ·have hlen:(jQ l).length=l.length:=by simp[jQ]
  have h1:=Tryz.slices_Sort_int g 0 cap (jQ l) w (aay hh kU) (aC hh) zO;rw[hlen] at h1;refine Calls.mono (P:=Tryz.prog) (f:=84) h1 ?_;rintro e w' ⟨rfl,q,os,rfl⟩;obtain⟨l',zS⟩:∃l':List Nat,l.mergeSort (λx y=>decide (x<=y))=l':=⟨_,rfl⟩
  have hp:l'.Perm l:=by rw[<-zS];exact List.mergeSort_perm _ _
  have zo:l'.Pairwise (· <= ·):=by
   have:=List.pairwise_mergeSort (le:=λx y:Nat=>decide (x<=y)) (λa b c h1 h2=>by simp at*;omega) (λa b=>by simp;omega) l;rw[zS] at this;exact this.imp λh=>(by simpa using h)
  have hz:(jQ l).mergeSort (λx y=>decide (x<=y))=jQ l':=by
   have Kz:((jQ l).mergeSort (λx y=>decide (x<=y))).Perm (jQ l'):=(List.mergeSort_perm _ _).trans (hp.symm.map _)
   have nC:((jQ l).mergeSort (λx y=>decide (x<=y))).Pairwise (· <= ·):=by
    have:=List.pairwise_mergeSort (le:=λx y:Int=>decide (x<=y)) (λa b c h1 h2=>by simp at*;omega) (λa b=>by simp;omega) (jQ l);exact this.imp λh=>(by simpa using h)
   have uS:(jQ l').Pairwise (· <= ·):=by
    unfold jQ;rw[List.pairwise_map];exact zo.imp λh=>(by omega)
   exact List.Perm.eq_of_pairwise (λa b _ _ h1 h2=>by omega) nC uS Kz
  rw[hz];have hll:l'.length=l.length:=hp.length_eq;obtain⟨cur',c1,c2,c3,c4⟩:=aaz w g q (jQ l').toArray os cur hh (by simp[jQ,hll];omega);refine⟨rfl,l',hp,zo,?_,c4⟩;rw[<-hll];refine agy mP hg yg c1 c2 zO λj x hx=>?_;have hj:j<l'.length:=(List.getElem?_eq_some_iff.1 hx).1;rw[c3 j (by simp[jQ];exact hj),BC (by simp[jQ];exact hj)];obtain⟨_,rfl⟩:=List.getElem?_eq_some_iff.1 hx;rfl
theorem anr{l:List Nat}{x:Nat}(h:x∈l):sset (l++[x])=sset l:=
 (WG (qW _) (qW _) λy=>by rw[wI,wI,z12,og];exact⟨λh'=>h'.elim id (λe=>e ▸ h),.inl⟩)
theorem ant{l:List Nat}{x:Nat}(h:∀y∈l,y<x):sset (l++[x])=sset l++[x]:=by
 refine WG (qW _) ?_ λy=>by rw[wI,z12,z12,wI]
 rw[List.pairwise_append];exact⟨qW _,zP,λa ha b hb=>by rw[List.mem_singleton.1 hb];exact h a (wI.1 ha)⟩
theorem adp{l:List Nat}(h:l.Pairwise (· <= ·)):Lib.compact (jQ l)=jQ (sset l):=by
 have key:∀m,m<=l.length->Lib.compactUpTo (jQ l).toArray m=jQ (sset (l.take m)):=by
  intro m
  induction m with
  | zero=>intro _;rfl
  | succ m ih=>
    intro hm;have hlen:(jQ l).length=l.length:=(by simp[jQ]);rw[Lib.compactUpTo_succ,ih zO,List.take_add_one,z6 (by omega:m<l.length),Option.toList_some,BC zO];rw[List.pairwise_iff_getElem] at h;by_cases hk:Lib.keeps (jQ l).toArray m=true
    ·rw[if_pos hk,ant]
     ·simp[jQ]
     ·intro y hy
      obtain⟨j,hj,rfl⟩:=List.getElem_of_mem hy;rw[List.length_take] at hj;rw[List.getElem_take];have h1:m≠0:=(by omega);unfold Lib.keeps at hk;simp only[z18] at hk
      rcases hk with hk | hk
      ·exact absurd hk h1
      ·rw[BC zO,BC zO] at hk
       have h2:=h (m - 1) m zO zO zO;have h3:l[m - 1]'zO<l[m]'zO:=(by omega)
       rcases Nat.lt_or_ge j (m - 1) with h4 | h4
       ·have:=h j (m - 1) zO zO h4;omega
       ·have:j=m - 1:=by omega
        subst this;exact h3
    ·rw[if_neg hk,List.append_nil,anr]
     unfold Lib.keeps at hk;simp only[z18,not_or,ne_eq,Decidable.not_not] at hk;have h1:=hk.2;rw[BC zO,BC zO] at h1;have h2:l[m]'zO=l[m - 1]'zO:=(by omega);rw[h2];exact List.mem_take_iff_getElem.2 ⟨m - 1,zO,rfl⟩
 have:=key l.length (zR _);rw[List.take_length] at this;unfold Lib.compact;rwa [show (jQ l).length=l.length by simp[jQ]]
theorem adq:∀l:List Nat,(sset l).length<=l.length
 | []=>zR _
 | x::l=>by
   have h1:=adq l
   have h2:∀l:List Nat,(Ey x l).length<=l.length+1:=by
    intro l
    induction l with
    | nil=>simp[Ey]
    | cons y l ih=>rw[Ey];split;simp;split;simp;simp;exact ih
   have:=h2 (sset l);show (Ey x (sset l)).length<=_;simp;omega
theorem RX(base:Nat)(l:List Nat)(v:Value)(w:World)(h:ax w base 3 1 aV l v)(hs:l.Pairwise (· <= ·))(hl:l.length<1000000000000):
 Calls Tryz.prog 85 #[v] w λe w'=>∃v',e= .returned v'/\ax w' base 3 1 aV (sset l) v'/\w.grownBy w' v.ownBlock/\v'.ownBlock=v.ownBlock:=by
 rcases h.2 with ⟨rfl,hn⟩ | ⟨g,cap,cur,rfl,hg,hh,GK,yg,mP,kU⟩
 ·have Me:l=[]:=List.eq_nil_of_length_eq_zero hn
  subst Me;refine Calls.mono (P:=Tryz.prog) (f:=85) (Tryz.slices_Compact_int_empty none 0 w) ?_;rintro e w' ⟨rfl,rfl⟩;exact⟨_,rfl,ax.nil _ _ _ _ _,⟨rfl,rfl,rfl,zR _,λ_ _ _=>rfl⟩,rfl⟩
 ·have hlen:(jQ l).length=l.length:=by simp[jQ]
  have h1:=Tryz.slices_Compact_int g 0 cap (jQ l) w (aay hh kU) zO zO;rw[hlen,adp hs] at h1;refine Calls.mono (P:=Tryz.prog) (f:=85) h1 ?_;rintro e w' ⟨rfl,q,rfl⟩;have XI:=adq l
  have jU:(jQ (sset l)).length=(sset l).length:=by simp[jQ]
  obtain⟨cur',c1,c2,c3,c4⟩:=aaz w g q (jQ (sset l)++List.replicate (l.length - (jQ (sset l)).length) 0).toArray #[] cur hh (by simp[jU];omega);rw[grow_empty] at c1 c4;refine⟨_,rfl,?_,c4,rfl⟩;have e:=agy (l':=sset l) mP hg yg c1 c2 zO λj x hx=>?_
  ·rw[<-jU] at e
   exact e
  have hj:j<(sset l).length:=(List.getElem?_eq_some_iff.1 hx).1;rw[c3 j (by simp[jU];omega),getElem!_pos _ j (by simp[jU];omega)];obtain⟨_,rfl⟩:=List.getElem?_eq_some_iff.1 hx;simp[jQ,hj]
theorem ad3{w':World}{base g cap:Nat}{l':List ByteArray}{cur cur':Array Value}(kU:cur.size=cap*1)(hg:base<=g)(yg:cap<=maxLen)(hh:w'.heap[g]?=some (.cells cur' 9 (0,0)))(hs:cur'.size=cur.size)(hl:l'.length<=cap)
 (hc:∀(j:Nat) (x:ByteArray),l'[j]?=some x->cur'[j]?=some (Value.string x)):ax w' base 9 1 mG l' (.slice (some ⟨g,0,none⟩) l'.length cap):=by
 refine⟨tX Ii _,.inr ⟨g,cap,cur',rfl,hg,hh,hl,yg,by rw[hs,kU],?_⟩⟩;apply List.ext_getElem?;intro j;by_cases hj:j<l'.length
 ·rw[List.getElem?_take_of_lt zO]
  have hx:l'[j]?=some (l'[j]'hj):=z6 hj;have h1:=flat_get Ii l' j 0 _ hx zD;rw[Nat.mul_one,Nat.add_zero] at h1;rw[h1];have h2:=hc j _ hx;rw[Array.getElem?_toList,h2];rfl
 ·rw[List.getElem?_eq_none (by rw[List.length_take];omega),List.getElem?_eq_none (by rw[tX Ii];omega)]
def fU(l:List ByteArray):List (List UInt8):=l.map λb=>b.data.toList
theorem ad4{l:List ByteArray}{j:Nat}(h:j<(fU l).length):(fU l).toArray[j]! =(l[j]'(by simpa[fU] using h)).data.toList:=by
 rw[getElem!_pos _ j (by simpa using h)];simp[fU]
theorem X7{w:World}{g:Nat}{l:List ByteArray}{cur:Array Value}(hg:w.heap[g]?=some (.cells cur 9 (0,0)))(hc:cur.toList.take (l.length*1)=l.flatMap mG):Holds encStr w g 0 (fU l).toArray:=by
 intro j hj
 have GL:j<l.length:=by simpa[fU] using hj
 refine⟨?_,frozen_of_row w g _ _ _ hg⟩;rw[Nat.zero_add,cell_of_row w g _ _ _ _ hg,ad4 (by simpa using hj)];have hx:l[j]?=some (l[j]'GL):=z6 GL;have h1:=flat_get Ii l j 0 _ hx zD;rw[Nat.mul_one,Nat.add_zero,<-hc,List.getElem?_take_of_lt zO] at h1;rw[<-Array.getElem?_toList];exact h1
theorem X8(w:World)(g q:Nat)(d:Array (List UInt8))(os:Array Obj)(cur:Array Value)(hg:w.heap[g]?=some (.cells cur 9 (0,0)))(hd:d.size<=cur.size):
 ∃cur',(grow (putRow encStr (Sort.ahead w q) g 0 d) os).heap[g]?=some (.cells cur' 9 (0,0))/\cur'.size=cur.size/\(∀j,j<d.size->cur'[j]?=some (.string ⟨d[j]!.toArray⟩))/\w.grownBy (grow (putRow encStr (Sort.ahead w q) g 0 d) os) (some g):=by
 have aN:=aC hg;have hs:(putRow encStr (Sort.ahead w q) g 0 d).heap.size=w.heap.size:=size_putRow _ (Sort.ahead w q) g 0 d;refine⟨putCells encStr 0 d cur,?_,by unfold putCells;simp,λj hj=>?_,rfl,rfl,rfl,?_,λk hk dD=>?_⟩
 ·show ((putRow encStr (Sort.ahead w q) g 0 d).heap++os)[g]?=_
  rw[Array.getElem?_append_left zO];show (w.heap.modify g (onCells _))[g]?=_;rw[Array.getElem?_modify,if_pos rfl,hg];rfl
 ·have hj2:j<cur.size:=by omega
  simp only[putCells,Array.getElem?_mapIdx,Array.getElem?_eq_getElem hj2,Option.map_some];rw[if_pos ⟨zO,zO⟩];rfl
 ·show w.heap.size<=((putRow encStr (Sort.ahead w q) g 0 d).heap++os).size
  rw[Array.size_append];omega
 ·show ((putRow encStr (Sort.ahead w q) g 0 d).heap++os)[k]?=w.heap[k]?
  rw[Array.getElem?_append_left zO];show (w.heap.modify g (onCells _))[k]?=_;rw[Array.getElem?_modify,if_neg (λe=>dD (by rw[e]))]
theorem alk(base:Nat)(l:List ByteArray)(v:Value)(w:World)(h:ax w base 9 1 mG l v)(hl:l.length<1000000000000):
 Calls Tryz.prog 122 #[v] w λe w'=>e= .returned (.tuple #[])/\∃l':List ByteArray,l'.Perm l/\fU l'=(fU l).mergeSort (λx y=>decide (x<=y))/\ax w' base 9 1 mG l' v/\w.grownBy w' v.ownBlock:=by
 rcases h.2 with ⟨rfl,hn⟩ | ⟨g,cap,cur,rfl,hg,hh,GK,yg,mP,kU⟩
 ·have Me:l=[]:=List.eq_nil_of_length_eq_zero hn
  subst Me;refine Calls.mono (P:=Tryz.prog) (f:=122) (Tryz.slices_Sort_string_none none 0 w) ?_;rintro e w' ⟨rfl,rfl⟩;exact⟨rfl,[],List.Perm.refl _,by simp[fU],ax.nil _ _ _ _ _,⟨rfl,rfl,rfl,zR _,λ_ _ _=>rfl⟩⟩
 ·have hlen:(fU l).length=l.length:=by simp[fU]
  have h1:=Tryz.slices_Sort_string g 0 cap (fU l) w (X7 hh kU) (aC hh) zO;rw[hlen] at h1;refine Calls.mono (P:=Tryz.prog) (f:=122) h1 ?_;rintro e w' ⟨rfl,q,os,rfl⟩
  have back:∀l:List ByteArray,(fU l).map (λs=>(⟨s.toArray⟩:ByteArray))=l:=λl=>by
   unfold fU;rw[List.map_map]
   conv=>rhs;rw[<-List.map_id l]
   exact List.map_congr_left λx _=>by simp
  have axX:∀ss:List (List UInt8),fU (ss.map λs=>(⟨s.toArray⟩:ByteArray))=ss:=λss=>by
   unfold fU;rw[List.map_map]
   conv=>rhs;rw[<-List.map_id ss]
   exact List.map_congr_left λx _=>by simp
  obtain⟨l',zS⟩:∃l':List ByteArray,((fU l).mergeSort (λx y=>decide (x<=y))).map (λs=>(⟨s.toArray⟩:ByteArray))=l':=⟨_,rfl⟩
  have hz:fU l'=(fU l).mergeSort (λx y=>decide (x<=y)):=by rw[<-zS];exact axX _
  have hp:l'.Perm l:=by
   rw[<-zS];have:=(List.mergeSort_perm (fU l) (λx y=>decide (x<=y))).map (λs=>(⟨s.toArray⟩:ByteArray));rwa [back] at this
  rw[<-hz];have hll:l'.length=l.length:=hp.length_eq;obtain⟨cur',c1,c2,c3,c4⟩:=X8 w g q (fU l').toArray os cur hh (by simp[fU,hll];omega);refine⟨rfl,l',hp,hz ▸ rfl,?_,c4⟩;rw[<-hll];refine ad3 mP hg yg c1 c2 zO λj x hx=>?_;have hj:j<l'.length:=(List.getElem?_eq_some_iff.1 hx).1;rw[c3 j (by simp[fU];exact hj),ad4 (by simp[fU];exact hj)];obtain⟨_,rfl⟩:=List.getElem?_eq_some_iff.1 hx;simp
def UY(ss:List (List UInt8)):List ByteArray:=ss.map λs=>⟨s.toArray⟩
theorem anV(ss:List (List UInt8)):fU (UY ss)=ss:=by
 unfold fU UY;rw[List.map_map]
 conv=>rhs;rw[<-List.map_id ss]
 exact List.map_congr_left λx _=>by simp
theorem anW(l:List ByteArray):UY (fU l)=l:=by
 unfold fU UY;rw[List.map_map]
 conv=>rhs;rw[<-List.map_id l]
 exact List.map_congr_left λx _=>by simp
theorem PR(d:Array (List UInt8)):∀m,(Lib.compactUpTo d m).length<=m
 | 0=>zR _
 | m+1=>by
   have:=PR d m;rw[Lib.compactUpTo_succ,z5]
   split
   ·simp;omega
   ·simp;omega
theorem ad5(base:Nat)(l:List ByteArray)(v:Value)(w:World)(h:ax w base 9 1 mG l v)(hl:l.length<1000000000000):
 Calls Tryz.prog 123 #[v] w λe w'=>∃v',e= .returned v'/\ax w' base 9 1 mG (UY (Lib.compact (fU l))) v'/\w.grownBy w' v.ownBlock/\v'.ownBlock=v.ownBlock:=by
 rcases h.2 with ⟨rfl,hn⟩ | ⟨g,cap,cur,rfl,hg,hh,GK,yg,mP,kU⟩
 ·have Me:l=[]:=List.eq_nil_of_length_eq_zero hn
  subst Me;refine Calls.mono (P:=Tryz.prog) (f:=123) (Tryz.slices_Compact_string_empty none 0 w) ?_;rintro e w' ⟨rfl,rfl⟩;exact⟨_,rfl,ax.nil _ _ _ _ _,⟨rfl,rfl,rfl,zR _,λ_ _ _=>rfl⟩,rfl⟩
 ·have hlen:(fU l).length=l.length:=by simp[fU]
  have h1:=Tryz.slices_Compact_string g 0 cap (fU l) w (X7 hh kU) zO zO
  have XI:(Lib.compact (fU l)).length<=l.length:=by
   have:=PR (fU l).toArray (fU l).length;unfold Lib.compact;omega
  obtain⟨l',zS⟩:∃l',UY (Lib.compact (fU l))=l':=⟨_,rfl⟩
  have hc:Lib.compact (fU l)=fU l':=by rw[<-zS,anV]
  rw[hlen,hc] at h1;rw[hc] at XI;rw[zS];refine Calls.mono (P:=Tryz.prog) (f:=123) h1 ?_;rintro e w' ⟨rfl,q,rfl⟩
  have jU:(fU l').length=l'.length:=by simp[fU]
  obtain⟨cur',c1,c2,c3,c4⟩:=X8 w g q (fU l'++List.replicate (l.length - (fU l').length) []).toArray #[] cur hh (by simp[jU];omega);rw[grow_empty] at c1 c4;refine⟨_,rfl,?_,c4,rfl⟩;have e:=ad3 (l':=l') mP hg yg c1 c2 zO λj x hx=>?_
  ·rw[<-jU] at e
   exact e
  have hj:j<l'.length:=(List.getElem?_eq_some_iff.1 hx).1;rw[c3 j (by simp[jU];omega),getElem!_pos _ j (by simp[jU];omega)];obtain⟨_,rfl⟩:=List.getElem?_eq_some_iff.1 hx;simp[fU,hj]
end Go.Proofs.YtgmnnegfndpakaaGreatDoor
