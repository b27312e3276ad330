import Derived.Test.YtgmnnegfndpakaaGreatDoorG05
import Derived.RangeFuncNested
import Derived.RangeFuncBound
import Derived.RangeFuncCalls
import Derived.RangeFuncLeaves
import Derived.Shelf.Abstract
import Derived.Shelf.RegionOpen
import Derived.OwnWalkIn
import Derived.TacticsInMore
import Derived.LoopNIn
import Derived.LoopIn
import Derived.Deep.DeepFit
import Derived.Lib.AppendIntMem
set_option maxHeartbeats 20000000
set_option maxRecDepth 100000
namespace Go.Proofs.YtgmnnegfndpakaaGreatDoor
open Go.RowKit Go.Shelf
attribute [local go_sem] Oper.semAt_some
section
variable {κ:Type} {P:Program}
theorem YJ(m:Nat)(hm:1<=m)(W:World):∃q d,q<m/\(choose (.mapNext m)).run P W= .ok q (W.drewN d):=by
 by_cases h:m<=1
 ·exact⟨0,0,zO,by simp[choose,Sem.run,Question.forced,h,World.drewN]⟩
 ·refine⟨W.tape W.drawn (.mapNext m) % m,1,Nat.mod_lt _ zO,?_⟩
  simp[choose,Sem.run,Question.forced,h,Question.cut,World.drewN]
theorem run_range_map{mt kt et:TypeId}(hm:P.underlying mt=some (.map kt et)){enc:κ->Value}{W:World}{g:Nat}{L:List (κ×Bool)}(h:iM W g enc L):
 (Instr.range mt (.map (some g))).run P W= .ok (.pointer (some ⟨W.heap.size,0,none⟩)) (W.alloc (.mapIter (some g) L.length #[] L.length)):=by
 have hg:=MapKept.run_getObj_map (P:=P) (show W.heap[g]?=some (.map (mE enc L 0).toArray L.length) from h);simp[Instr.range,run_underlying hm,hg,Result.andThen,go_sem]
theorem akl{enc:κ->Value}{L:List (κ×Bool)}{e:MapEntry}(h:e∈mE enc L 0):∃p,L[e.born]?=some p/\e=⟨enc p.1,.bool p.2,e.born⟩:=by
 obtain⟨j,hj,rfl⟩:=List.mem_iff_getElem.1 h;have h1:=QP enc L 0 j;rw[z6 hj] at h1
 cases hL:L[j]? with
 | none=>rw[hL] at h1;cases h1
 | some p=>
   rw[hL] at h1;simp only[Option.map_some,Option.some.injEq,Nat.zero_add] at h1;rw[h1];exact⟨p,hL,rfl⟩
theorem YK{enc:κ->Value}{L:List (κ×Bool)}{i:Nat}{p:κ×Bool}(h:L[i]?=some p):(⟨enc p.1,.bool p.2,i⟩:MapEntry)∈mE enc L 0:=by
 have h1:=QP enc L 0 i;rw[h] at h1;simp only[Option.map_some,Nat.zero_add] at h1;exact z13 h1
theorem Dq{W:World}{bi g n:Nat}{seen:Array Nat}(h:W.heap[bi]?=some (.mapIter (some g) n seen n)):(getObj bi).run P W= .ok (.mapIter (some g) n seen n) W:=by
 simp[getObj,Sem.run,h]
theorem aba{enc:κ->Value}{W:World}{g bi:Nat}{L:List (κ×Bool)}{seen:Array Nat}(h:iM W g enc L)(hi:W.heap[bi]?=some (.mapIter (some g) L.length seen L.length))(hu:∃i,i<L.length/\i ∉ seen)(ty:TypeId):
 ∃i k v d,L[i]?=some (k,v)/\i ∉ seen/\(Instr.next (.pointer (some ⟨bi,0,none⟩)) false ty).run P W= .ok (.tuple #[.bool true,enc k,.bool v]) { W.drewN d with heap:=W.heap.setIfInBounds bi (.mapIter (some g) L.length (seen.push i) L.length) }:=by
 have hg:=MapKept.run_getObj_map (P:=P) (show W.heap[g]?=some (.map (mE enc L 0).toArray L.length) from h);have hgi:=Dq (P:=P) hi;obtain⟨i0,UI,hs0⟩:=hu
 have dW:¬((!seen.isEmpty&&!(mE enc L 0).toArray.isEmpty&&(mE enc L 0).toArray.all (λe=>decide (e.born≥L.length)))=true):=by
  intro hc;rw[z7] at hc;have h2:=hc.2;rw[Array.all_eq_true'] at h2;have h3:=h2 _ (by simpa using YK (enc:=enc) (z6 UI));simp at h3;omega
 obtain⟨left,Xr⟩:=zF (((mE enc L 0).toArray.filter λe=>!seen.contains e.born))
 have jb:∀e,e∈left->∃p,L[e.born]?=some p/\e=⟨enc p.1,.bool p.2,e.born⟩/\e.born ∉ seen:=by
  intro e he;rw[<-Xr,Array.mem_filter] at he;obtain⟨p,h1,h2⟩:=akl (by simpa using he.1);exact⟨p,h1,h2,by simpa using he.2⟩
 have hold:left.filter (λe=>decide (e.born<L.length))=left:=by
  rw[Array.filter_eq_self];intro e he;obtain⟨p,h1,_⟩:=jb e he;have:=(List.getElem?_eq_some_iff.1 h1).1;simpa using this
 have YL:left.filter (λe=>decide (e.born≥L.length))= #[]:=by
  rw[Array.filter_eq_empty_iff];intro e he;obtain⟨p,h1,_⟩:=jb e he;have:=(List.getElem?_eq_some_iff.1 h1).1;simp;omega
 have dD:left.isEmpty=false:=by
  have:(⟨enc L[i0].1,.bool L[i0].2,i0⟩:MapEntry)∈left:=by
   rw[<-Xr,Array.mem_filter];exact⟨by simpa using YK (enc:=enc) (z6 UI),by simpa using hs0⟩
  rw[Bool.eq_false_iff];intro hc;rw[Array.isEmpty_iff] at hc;rw[hc] at this;simp at this
 have bY:1<=left.size:=by
  rw[Bool.eq_false_iff] at dD;have:left≠#[]:=λe=>dD (by rw[e];rfl);have:=Array.size_pos_iff.2 this;omega
 obtain⟨q,d,hq,bG⟩:=YJ (P:=P) left.size bY W
 have axS:((if left.isEmpty then #[none] else #[])++(left++ #[]).map some:Array (Option MapEntry))=left.map some:=by
  rw[dD];simp
 have hq1:(left.map some)[q]?=some (some left[q]):=by simp[hq]
 obtain⟨p,h1,h2,h3⟩:=jb left[q] (Array.getElem_mem hq);refine⟨left[q].born,p.1,p.2,d,h1,h3,?_⟩
 have Gh:(setObj bi (.mapIter (some g) L.length (seen.push left[q].born) L.length)).run P (W.drewN d)= .ok () { W.drewN d with heap:=W.heap.setIfInBounds bi (.mapIter (some g) L.length (seen.push left[q].born) L.length) }:=by
  have:(W.drewN d).heap[bi]?=some (.mapIter (some g) L.length seen L.length):=hi;simp only[setObj,Sem.run,this];rfl
 simp only[Instr.next,Sem.run_bind,hgi,Result.andThen,hg,Xr];rw[if_neg dW];simp only[Sem.run_bind,Sem.run_pure,Result.andThen,hold,YL,axS,Array.size_map,bG,hq1,Gh];rw[h2]
theorem abb{enc:κ->Value}{W:World}{g bi:Nat}{L:List (κ×Bool)}{seen:Array Nat}(h:iM W g enc L)(hi:W.heap[bi]?=some (.mapIter (some g) L.length seen L.length))(hu:∀i,i<L.length->i∈seen)(ty:TypeId):
 (Instr.next (.pointer (some ⟨bi,0,none⟩)) false ty).run P W= .ok (.tuple #[.bool false]) W:=by
 have hg:=MapKept.run_getObj_map (P:=P) (show W.heap[g]?=some (.map (mE enc L 0).toArray L.length) from h);have hgi:=Dq (P:=P) hi
 have dW:¬((!seen.isEmpty&&!(mE enc L 0).toArray.isEmpty&&(mE enc L 0).toArray.all (λe=>decide (e.born≥L.length)))=true):=by
  intro hc;rw[z7] at hc;have h2:=hc.2;rw[Array.all_eq_true'] at h2
  cases L with
  | nil=>simp[mE] at hc
  | cons p L=>
    have h3:=h2 _ (by simpa using YK (enc:=enc) (L:=p::L) (i:=0) (p:=p) rfl);simp at h3
 have Xr:((mE enc L 0).toArray.filter λe=>!seen.contains e.born)= #[]:=by
  rw[Array.filter_eq_empty_iff];intro e he;obtain⟨p,h1,_⟩:=akl (by simpa using he);have:=hu _ (List.getElem?_eq_some_iff.1 h1).1;simpa using this
 have bG:(choose (.mapNext 1)).run P W= .ok 0 W:=by simp[choose,Sem.run,Question.forced]
 simp only[Instr.next,Sem.run_bind,hgi,Result.andThen,hg,Xr];rw[if_neg dW];simp only[Sem.run_bind,Result.andThen];have hfo:(Question.mapNext 1).forced=true:=rfl;simp[hfo]
theorem agb(enc:κ->Value):∀(L:List (κ×Bool)) (s j:Nat),(mE enc L s).find? (λe=>e.born==s+j)=(L[j]?).map λp=>⟨enc p.1,.bool p.2,s+j⟩
 | [],s,j=>by simp[mE]
 | (k,v)::L,s,0=>by simp[mE]
 | (k,v)::L,s,j+1=>by
   rw[mE,List.find?_cons_of_neg zP,List.getElem?_cons_succ,show s+(j+1)=s+1+j by omega,agb enc L (s+1) j]
theorem akn{enc:κ->Value}{W:World}{g bi:Nat}{L:List (κ×Bool)}{seen:Array Nat}{i:Nat}{k:κ}{v:Bool}(h:iM W g enc L)(hi:W.heap[bi]?=some (.mapIter (some g) L.length (seen.push i) L.length))(hL:L[i]?=some (k,v)):
 (Instr.entry (.pointer (some ⟨bi,0,none⟩))).run P W= .ok (.tuple #[enc k,.bool v]) W:=by
 have hg:=MapKept.run_getObj_map (P:=P) (show W.heap[g]?=some (.map (mE enc L 0).toArray L.length) from h);have hgi:=Dq (P:=P) hi;have hf:=agb enc L 0 i;rw[hL] at hf;simp only[Nat.zero_add,Option.map_some] at hf;simp[Instr.entry,hgi,Result.andThen,hg,hf]
end
end Go.Proofs.YtgmnnegfndpakaaGreatDoor
