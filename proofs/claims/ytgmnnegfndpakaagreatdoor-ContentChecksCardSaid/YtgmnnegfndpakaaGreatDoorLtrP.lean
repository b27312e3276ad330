import Derived.Test.YtgmnnegfndpakaaGreatDoorG37
import Derived.Test.YtgmnnegfndpakaaGreatDoorG33
import Derived.Lib.SlicesCompact
set_option maxHeartbeats 20000000
set_option maxRecDepth 100000
namespace Go.Proofs.YtgmnnegfndpakaaGreatDoor
open Go.RowKit
section
variable {α:Type} [Inhabited α] [DecidableEq α]
theorem TV(d:Array α)(x:α):∀m,x∈Lib.compactUpTo d m↔∃j,j<m/\d[j]! =x
 | 0=>by simp[Lib.compactUpTo]
 | m+1=>by
   rw[Lib.compactUpTo_succ,z12,TV d x m];constructor
   ·rintro (⟨j,hj,rfl⟩ | h)
    ·exact⟨j,zO,rfl⟩
    ·split at h
     ·rw[og] at h
      exact⟨m,zO,h.symm⟩
     ·simp at h
   ·rintro⟨j,hj,rfl⟩
    by_cases hk:Lib.keeps d m=true
    ·by_cases e:j=m
     ·subst e
      right;rw[if_pos hk];simp
     ·exact .inl ⟨j,zO,rfl⟩
    ·left
     by_cases e:j=m
     ·subst e
      have h:¬(j=0\/d[j]!≠d[j - 1]!):=by
       intro h;exact hk (by unfold Lib.keeps;exact decide_eq_true h)
      have h0:j≠0:=λh'=>h (.inl h')
      have h1:d[j]! =d[j - 1]!:=by
       by_cases e1:d[j]! =d[j - 1]!
       ·exact e1
       ·exact absurd (.inr e1) h
      exact⟨j - 1,zO,h1.symm⟩
     ·exact⟨j,zO,rfl⟩
theorem TW{lt:α->α->Bool}(hn:∀{x y z:α},lt x y=false->lt y z=false->lt x z=false)(ht:∀{x y:α},lt x y=false->lt y x=false->x=y)
 (d:Array α) (hs:∀i j,i<j->j<d.size->lt d[j]! d[i]! =false):∀m,m<=d.size->(Lib.compactUpTo d m).Pairwise λx y=>lt x y=true
 | 0,_=>by simp[Lib.compactUpTo]
 | m+1,hm=>by
   rw[Lib.compactUpTo_succ]
   split
   ·rename_i hk
    rw[List.pairwise_append];refine⟨TW (lt:=lt) hn ht d hs m zO,zP,λx hx y hy=>?_⟩;rw[og] at hy;subst hy;obtain⟨j,hj,rfl⟩:=(TV d x m).1 hx;have fM:m=0\/d[m]!≠d[m - 1]!:=(by unfold Lib.keeps at hk;exact of_decide_eq_true hk)
    have h0:d[m]!≠d[m - 1]!:=by
     rcases fM with h | h
     ·omega
     ·exact h
    have h1:lt d[m]! d[m - 1]! =false:=hs (m - 1) m zO zO
    cases h2:lt d[j]! d[m]! with
    | true=>rfl
    | false=>
      have h3:lt d[m - 1]! d[m]! =false:=by
       by_cases e:j=m - 1
       ·subst e;exact h2
       ·exact hn (hs j (m - 1) zO zO) h2
      exact absurd (ht h1 h3) h0
   ·simp only[List.append_nil]
    exact TW (lt:=lt) hn ht d hs m zO
end
theorem DL{α:Type}[Inhabited α]{l:List α}{j:Nat}(h:j<l.length):l.toArray[j]! =l[j]:=by
 rw[getElem!_pos l.toArray j (by simpa using h)];simp
theorem anX(l:List Nm):∀acc:List Nm,(acc.Pairwise λx y=>jg x y=true)->((l.foldl sF acc).Pairwise λx y=>jg x y=true)/\∀x,x∈l.foldl sF acc↔x∈acc\/x∈l:=by
 induction l with
 | nil=>intro acc h;exact⟨h,λx=>by simp⟩
 | cons y l ih=>
   intro acc h;obtain⟨h1,h2⟩:=ih (sF acc y) (Ji (lt:=jg) jM (λ_ _ _=>vY) (λ_ _=>vZ) h);refine⟨h1,λx=>?_⟩;rw[List.foldl_cons,h2,ada,z15];exact⟨λh=>by rcases h with (h | h) | h<;>simp[h],λh=>by rcases h with h | h | h<;>simp[h]⟩
theorem anY(l:List ByteArray):∀acc:List ByteArray,(acc.Pairwise λx y=>kQ x y=true)->((l.foldl qy acc).Pairwise λx y=>kQ x y=true)/\∀x,x∈l.foldl qy acc↔x∈acc\/x∈l:=by
 induction l with
 | nil=>intro acc h;exact⟨h,λx=>by simp⟩
 | cons y l ih=>
   intro acc h;obtain⟨h1,h2⟩:=ih (qy acc y) (Ji (lt:=kQ) lD (λ_ _ _=>Cc) (λ_ _=>zk) h);refine⟨h1,λx=>?_⟩;rw[List.foldl_cons,h2,VG,z15];exact⟨λh=>by rcases h with (h | h) | h<;>simp[h],λh=>by rcases h with h | h | h<;>simp[h]⟩
theorem ad6{ns l:List Nm}(hp:ns.Perm l)(hs:ns.Pairwise λx y=>jg y x=false):Lib.compact ns=l.foldl sF []:=by
 obtain⟨h1,h2⟩:=anX l [] List.Pairwise.nil;refine arE ?_ h1 λx=>?_
 ·unfold Lib.compact
  refine TW (lt:=jg) zM vZ ns.toArray (λi j Fz hj=>?_) ns.length zP
  have GL:j<ns.length:=by simpa using hj
  rw[DL GL,DL zO];exact List.pairwise_iff_getElem.1 hs i j zO GL Fz
 ·unfold Lib.compact
  rw[TV,h2,<-hp.mem_iff];constructor
  ·rintro⟨j,hj,rfl⟩
   exact .inr (List.mem_iff_getElem.2 ⟨j,hj,(DL hj).symm⟩)
  ·rintro (h | h)
   ·simp at h
   ·obtain⟨j,hj,rfl⟩:=List.mem_iff_getElem.1 h
    exact⟨j,hj,DL hj⟩
theorem ad7{ss l:List ByteArray}(hp:ss.Perm l)(hs:fU ss=(fU l).mergeSort (λx y=>decide (x<=y))):UY (Lib.compact (fU ss))=l.foldl qy []:=by
 obtain⟨h1,h2⟩:=anY l [] List.Pairwise.nil
 have zo:(fU ss).Pairwise λx y=>x<=y:=by
  rw[hs]
  have:=List.pairwise_mergeSort (le:=λx y:List UInt8=>decide (x<=y)) (λa b c h1 h2=>by
   simp only[z18] at*
   exact List.le_trans h1 h2) (λa b=>by
   have:=List.le_total a b
   simpa using this) (fU l)
  exact this.imp λh=>by simpa using h
 have jb:∀x:List UInt8,x∈fU ss↔(⟨x.toArray⟩:ByteArray)∈ss:=λx=>by
  conv=>rhs;rw[<-anW ss]
  unfold UY;rw[List.mem_map];constructor
  ·exact λh=>⟨x,h,rfl⟩
  ·rintro⟨y,hy,he⟩
   have:y=x:=(by simpa using congrArg (λb:ByteArray=>b.data.toList) he);exact this ▸ hy
 refine arF ?_ h1 λx=>?_
 ·unfold UY
  rw[List.pairwise_map]
  have:=TW (lt:=λx y:List UInt8=>decide (x<y)) (λ{x y z} h1 h2=>by
   simp only[decide_eq_false_iff_not,List.not_lt] at*
   exact List.le_trans h2 h1) (λ{x y} h1 h2=>by
   simp only[decide_eq_false_iff_not,List.not_lt] at*
   exact List.le_antisymm h2 h1) (fU ss).toArray (λi j Fz hj=>by
   have GL:j<(fU ss).length:=(by simpa using hj);rw[DL GL,DL zO];have:=List.pairwise_iff_getElem.1 zo i j zO GL Fz
   simpa using this) (fU ss).length zP
  unfold Lib.compact
  exact this.imp λh=>by
   unfold kQ;simpa using h
 ·unfold Lib.compact UY
  rw[h2,<-hp.mem_iff,List.mem_map]
  have key:∀y:List UInt8,y∈Lib.compactUpTo (fU ss).toArray (fU ss).length↔y∈fU ss:=λy=>by
   rw[TV,List.mem_iff_getElem];constructor
   ·rintro⟨j,hj,rfl⟩
    exact⟨j,hj,(DL hj).symm⟩
   ·rintro⟨j,hj,rfl⟩
    exact⟨j,hj,DL hj⟩
  constructor
  ·rintro⟨y,hy,rfl⟩
   exact .inr ((jb y).1 ((key y).1 hy))
  ·rintro (h | h)
   ·simp at h
   ·refine⟨x.data.toList,(key _).2 ((jb _).2 ?_),?_⟩
    ·simpa using h
    ·simp
end Go.Proofs.YtgmnnegfndpakaaGreatDoor
