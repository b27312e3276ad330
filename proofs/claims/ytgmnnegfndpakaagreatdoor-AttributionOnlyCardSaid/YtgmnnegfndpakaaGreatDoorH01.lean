import Derived.Test.YtgmnnegfndpakaaGreatDoorProg
import Derived.WalkKit
import Derived.Lib.Strings
import Derived.Lib.Hide
import Derived.Deep.Draws
set_option maxHeartbeats 20000000
set_option maxRecDepth 100000
namespace Go
inductive RowKit | Zc (a:Array Value)(t:TypeId)
instance (a t):CoeDep RowKit (.Zc a t) Obj:=⟨.cells a t⟩
instance (a t):CoeDep RowKit (.Zc a t) (Option Obj):=⟨some (.cells a t)⟩
instance:Coe Int Value:=⟨λx=>.int .i64 x⟩
instance:Coe Nat Value:=⟨λx=>.int .i64 x⟩
instance:Coe Nat Addr:=⟨λx=>⟨x,0,none⟩⟩
instance:Coe World Addr:=⟨λw=>⟨w.heap.size,0,none⟩⟩
instance:Coe World Nat:=⟨λw=>w.heap.size⟩
instance:Coe ByteArray Value:=⟨.string⟩
instance:Coe Bool Value:=⟨.bool⟩
instance:Coe Unit Value:=⟨λ_=>.slice none 0 0⟩
instance (a b:Nat):CoeDep (Nat×Nat) (a,b) Addr:=⟨⟨a,b,none⟩⟩
instance (a b:Nat):CoeDep (Nat×Nat) (a,b) (Option Addr):=⟨some ⟨a,b,none⟩⟩
instance (a b:Nat):CoeDep (Nat×Nat) (a,b) Value:=⟨.pointer (some ⟨a,b,none⟩)⟩
instance (a b:Nat):CoeDep (Nat×Nat) (a,b) (Option Value):=⟨some (.pointer (some ⟨a,b,none⟩))⟩
instance (w:World)(b:Nat):CoeDep (World×Nat) (w,b) (Option Value):=⟨some (.pointer (some ⟨w.heap.size,b,none⟩))⟩
instance (a b n c:Nat):CoeDep (Nat×Nat×Nat×Nat) (a,b,n,c) (Option Value):=⟨some (.slice (some ⟨a,b,none⟩) n c)⟩
instance (w:World)(b n c:Nat):CoeDep (World×Nat×Nat×Nat) (w,b,n,c) (Option Value):=⟨some (.slice (some ⟨w.heap.size,b,none⟩) n c)⟩
instance (w:World)(b:Nat):CoeDep (World×Nat) (w,b) Addr:=⟨⟨w.heap.size,b,none⟩⟩
instance (w:World)(b:Nat):CoeDep (World×Nat) (w,b) (Option Addr):=⟨some ⟨w.heap.size,b,none⟩⟩
instance (w:World)(b:Nat):CoeDep (World×Nat) (w,b) Value:=⟨.pointer (some ⟨w.heap.size,b,none⟩)⟩
instance (A:Option Addr)(n c:Nat):CoeDep (Option Addr×Nat×Nat) (A,n,c) Value:=⟨.slice A n c⟩
instance (A:Option Addr)(n c:Nat):CoeDep (Option Addr×Nat×Nat) (A,n,c) (Option Value):=⟨some (.slice A n c)⟩
instance (a b n c:Nat):CoeDep (Nat×Nat×Nat×Nat) (a,b,n,c) Value:=⟨.slice (some ⟨a,b,none⟩) n c⟩
instance (w:World)(b n c:Nat):CoeDep (World×Nat×Nat×Nat) (w,b,n,c) Value:=⟨.slice (some ⟨w.heap.size,b,none⟩) n c⟩
end Go
namespace Go.RowKit
theorem Below.seq{a b c:World}(h:Below a a b)(k:Below b b c):Below a a c:=h.trans (k.mono h.size)
theorem Below.drewN{B:Nat}{a w:World}(h:Below B a w)(n:Nat):Below B a (w.drewN n):=⟨h.os,h.tape,h.output,h.size,h.block⟩
theorem Below.xY{w w2:World}(h:Below w.drew w.drew w2):Below w w w2:=⟨h.os,h.tape,h.output,h.size,h.block⟩
structure Kept (M:Nat->Prop) (w w':World):Prop where
 os:w'.os=w.os
 tape:w'.tape=w.tape
 output:w'.output=w.output
 size:w.heap.size<=w'
 block:∀k,k<w.heap.size->¬M k->w'.heap[k]?=w.heap[k]?
section
variable {M:Nat->Prop} {a b c w:World}
theorem Kept.refl(M:Nat->Prop)(w:World):Kept M w w:=⟨rfl,rfl,rfl,Nat.le_refl _,λ_ _ _=>rfl⟩
theorem Kept.trans(h:Kept M a b)(k:Kept M b c):Kept M a c:=
 ⟨k.os.trans h.os,k.tape.trans h.tape,k.output.trans h.output,Nat.le_trans h.size k.size,λi hi hm=>(k.block i (Nat.lt_of_lt_of_le hi h.size) hm).trans (h.block i hi hm)⟩
theorem Kept.of_below(h:Below a a b):Kept M a b:=⟨h.os,h.tape,h.output,h.size,λi hi _=>h.block i hi⟩
theorem Kept.below(h:Kept M a b){B:Nat}(hB:B<=a)(hM:∀k,k<B->¬M k):Below B a b:=⟨h.os,h.tape,h.output,h.size,λi hi=>h.block i (by omega) (hM i hi)⟩
theorem Kept.drew(h:Kept M a w):Kept M a w.drew:=⟨h.os,h.tape,h.output,h.size,h.block⟩
theorem Kept.drewN(h:Kept M a w)(n:Nat):Kept M a (w.drewN n):=⟨h.os,h.tape,h.output,h.size,h.block⟩
theorem Kept.alloc(h:Kept M a w)(o:Obj):Kept M a (w.alloc o):=
 ⟨h.os,h.tape,h.output,by simp;exact Nat.le_succ_of_le h.size,λi hi hm=>(Below.heap_alloc w o i (Nat.lt_of_lt_of_le hi h.size)).trans (h.block i hi hm)⟩
theorem Kept.setCell(h:Kept M a w){p:Addr}(hp:M p.block\/a<=p.block)(u:Value):Kept M a (w.setCell p u):=
 ⟨h.os,h.tape,h.output,by simpa[World.setCell] using h.size,λi hi hm=>(Below.heap_setCell w p u i (by
  rintro rfl
  rcases hp with hp | hp
  ·exact hm hp
  omega)).trans (h.block i hi hm)⟩
theorem Kept.cell(h:Kept M a b){p:Addr}(hp:p.block<a)(hm:¬M p.block):b.cell? p=a.cell? p:=World.cell?_of_block (w:=a) (h.block p.block hp hm)
theorem Kept.frozen(h:Kept M a b){p:Addr}(hp:p.block<a)(hm:¬M p.block):b.frozen? p=a.frozen? p:=World.frozen?_of_block (w:=a) (h.block p.block hp hm)
end
end Go.RowKit
namespace Go.Proofs.YtgmnnegfndpakaaGreatDoor
open Go.RowKit Go.Proofs.Tryz
theorem k8:∀ (w : World) (g j : Nat) (cs : Array Value) (t : TypeId), (World.heap w)[g]? = Option.some (Obj.cells cs t) → World.frozen? w { block := g, off := j } = Bool.false:=@frozen_of_row
theorem j5:∀ {c : Prop} {_ : Decidable c}, ¬c → ∀ {α : Sort _} {t e : α}, (if c then t else e) = e:=@if_neg
theorem j6:∀ {c : Prop} {_ : Decidable c}, c → ∀ {α : Sort _} {t e : α}, (if c then t else e) = t:=@if_pos
theorem j8:∀ (w : World) (a : Addr) {u : Value}, World.cell? w a = Option.some u → Addr.block a < Array.size (World.heap w):=@World.block_lt_of_cell?
theorem j9:∀ (B : Nat) (w : World), RowKit.Below B w w:=@Below.refl
theorem g9:∀ {α : Type _} {l : List α}, List.length l = 0 → l = []:=@List.eq_nil_of_length_eq_zero
theorem t6:∀ {n : Nat} {P : Program} {f : FuncId} {args : Array Value} {w : World} {R : Ending → World → Prop}, CallsIn Fence.wide n P f args w R ↔ Calls P f args w R:=@callsIn_wide
theorem d4:∀ {n m k : Nat}, n < m → m ≤ k → n < k:=@Nat.lt_of_lt_of_le
theorem d6:∀ {α : Type _} (asx : List α), [] ++ asx = asx:=@List.nil_append
theorem d7:∀ {α : Type _} (asx bs cs : List α), asx ++ bs ++ cs = asx ++ (bs ++ cs):=@List.append_assoc
theorem d9:∀ (n : Nat), 0 + n = n:=@Nat.zero_add
theorem m7:∀ {α : Type _} {a : α} {asx bs : List α}, a :: asx ++ bs = a :: (asx ++ bs):=@List.cons_append
theorem m8:∀ {α : Type _} (asx : List α), asx ++ [] = asx:=@List.append_nil
theorem m9:∀ {a b : Bool}, a = b ↔ (a = Bool.true ↔ b = Bool.true):=@Bool.eq_iff_iff
theorem b6:(Bool.false = Bool.true) = False:=@Bool.false_eq_true
theorem b7:∀ (w : World) (a : Addr) (u : Value) (k : Nat), k ≠ Addr.block a → (World.heap (World.setCell w a u))[k]? = (World.heap w)[k]?:=@Below.heap_setCell
theorem l4:∀ {α : Type _} {β : Type _} {x : α} {xs : List α} {f : α → List β}, List.flatMap f (x :: xs) = f x ++ List.flatMap f xs:=@List.flatMap_cons
theorem l5:∀ {α : Type _} (val val_1 : α), (Option.some val = Option.some val_1) = (val = val_1):=@Option.some.injEq
theorem l6:∀ {α : Type _} {β : Type _} {xs ys : List α} {f : α → List β}, List.flatMap f (xs ++ ys) = List.flatMap f xs ++ List.flatMap f ys:=@List.flatMap_append
theorem l8:∀ {α : Type _} {i : Nat} {l : List α}, List.length l ≤ i → List.take i l = l:=@List.take_of_length_le
theorem i6:∀ (a : Option Addr) (len cap : Nat) (a_1 : Option Addr) (len_1 cap_1 : Nat), (Value.slice a len cap = Value.slice a_1 len_1 cap_1) = (a = a_1 ∧ len = len_1 ∧ cap = cap_1):=@Value.slice.injEq
theorem i7:∀ {α : Type _} (head : α) (tail : List α) (head_1 : α) (tail_1 : List α), (head :: tail = head_1 :: tail_1) = (head = head_1 ∧ tail = tail_1):=@List.cons.injEq
theorem i8:∀ (n m : Nat), n < m ∨ n ≥ m:=@Nat.lt_or_ge
theorem Jl:∀ {α : Type _} {l : List α} {i : Nat} (h : i < List.length l), l[i]? = Option.some l[i]:=@List.getElem?_eq_getElem
theorem Jm:∀ {α : Type _} {β : Type _} {f : α → β} {a : α} {l : List α}, List.map f (a :: l) = f a :: List.map f l:=@List.map_cons
theorem Ju:∀ {α : Type _} {i : Nat} {l : List α}, List.length (List.take i l) = Min.min i (List.length l):=@List.length_take
theorem JN:∀ {α : Type _} {β : Type _} {a : α} {l : List α} {f : β → α → β} {b : β}, List.foldl f b (a :: l) = List.foldl f (f b a) l:=@List.foldl_cons
theorem JT:∀ {α : Type _} {l : List α} {i : Nat}, List.length l ≤ i → l[i]? = Option.none:=@List.getElem?_eq_none
theorem Ys:∀ (w : World) (g j : Nat) (cs : Array Value) (t : TypeId) (fr : Nat × Nat), (World.heap w)[g]? = Option.some (Obj.cells cs t fr) → World.cell? w { block := g, off := j } = cs[j]?:=@cell_of_row
theorem YV:∀ {α : Type _} {asx : List α}, Array.size (List.toArray asx) = List.length asx:=@List.size_toArray
theorem Za:∀ {α : Type _} {l : List α} {i j : Nat}, i < j → (List.take j l)[i]? = l[i]?:=@List.getElem?_take_of_lt
theorem Zb:∀ {α : Type _} (y : α) {a : α} {l : List α}, a ∈ l → a ∈ y :: l:=@List.mem_cons_of_mem
theorem Zd:∀ {α : Type _} {a : α}, Array.replicate 0 a = #[]:=@Array.replicate_zero
theorem Ze:∀ {n : Nat} {α : Type _} {a : α}, Array.replicate (n + 1) a = Array.push (Array.replicate n a) a:=@Array.replicate_succ
theorem Zs:∀ {α : Type _} {a : α} {asx : List α} {i : Nat}, List.take (i + 1) (a :: asx) = a :: List.take i asx:=@List.take_succ_cons
theorem ZD:∀ {α : Type _} (l₁ l₂ : List α), List.toArray l₁ ++ List.toArray l₂ = List.toArray (l₁ ++ l₂):=@List.append_toArray
theorem ZS:∀ {w w' : World} {a : Addr}, (World.heap w')[Addr.block a]? = (World.heap w)[Addr.block a]? → World.cell? w' a = World.cell? w a:=@World.cell?_of_block
theorem Qb:∀ {α : Type _} {β : Type _} {f : α → β} {l₁ l₂ : List α}, List.map f (l₁ ++ l₂) = List.map f l₁ ++ List.map f l₂:=@List.map_append
theorem Qc:∀ {α : Type _} {p : α → Bool} {l : List α}, List.any l p = Bool.true ↔ ∃ x, x ∈ l ∧ p x = Bool.true:=@List.any_eq_true
theorem Qe:∀ {n m k : Nat}, n ≤ m → m < k → n < k:=@Nat.lt_of_le_of_lt
theorem Qf:∀ (n : Nat), n + 0 = n:=@Nat.add_zero
theorem Qg:∀ {P : Program} {fn : Func} {R : Ending → World → Prop} {a : Act} {w : World} {v : Value}, Sem.run P (results fn (Act.tmps a)) w = Result.ok v w → Act.defers a = [] → R (Ending.returned v) w → bodyPost P fn R Exit.ret a w:=@bodyPost_ret
theorem Qh:∀ {M : Nat → Prop} {a b : World}, RowKit.Below (Array.size (World.heap a)) a b → RowKit.Kept M a b:=@Kept.of_below
theorem zH{p:Prop}(h:p):Hid p:=Lib.hid h
theorem zR(n:Nat):n<=n:=Nat.le_refl n
theorem zT{a b c:Nat}(h:a<=b)(k:b<=c):a<=c:=Nat.le_trans h k
theorem zI{α:Type _}{a b:α}(h:some a=b):a=b:=Option.some.inj h
theorem z4{α:Type _}{i:Nat}{a:α}{l:List α}:l[i]?=a↔∃h,l[i]=a:=List.getElem?_eq_some_iff
theorem z5{α:Type _}{l k:List α}:List.length (l++k)=List.length l+List.length k:=List.length_append
theorem z6{α:Type _}{l:List α}{i:Nat}(h:i<List.length l):l[i]?=l[i]:=List.getElem?_eq_getElem h
theorem z7(a b:Bool):((a&&b)=true)=(a=true/\b=true):=Bool.and_eq_true a b
theorem z8{α:Type _}{β:Type _}{l:List α}(f:α->β):List.length (List.map f l)=List.length l:=List.length_map f
theorem z9{α:Type _}{a:α}{l:List α}:List.length (a::l)=List.length l+1:=List.length_cons
theorem nZ{α:Type _}{i:Nat}{l:List α}(h:i<List.length l):List.drop i l=l[i]::List.drop (i+1) l:=List.drop_eq_getElem_cons h
theorem og{α:Type _}{a b:α}:a∈[b]↔a=b:=List.mem_singleton
theorem z12{α:Type _}{a:α}{s t:List α}:a∈s++t↔a∈s\/a∈t:=List.mem_append
theorem SK{α:Type _}{l:List α}{i:Nat}{a:α}(h:l[i]?=a):a∈l:=List.mem_of_getElem? h
theorem z14{α:Type _}{l:List α}{i:Nat}(h:List.length l<=i):List.drop i l=[]:=List.drop_eq_nil_of_le h
theorem TT{α:Type _}{b:α}{l:List α}{a:α}:a∈b::l↔a=b\/a∈l:=List.mem_cons
theorem TQ{α:Type _}{a:α}:List.length [a]=1:=List.length_singleton
theorem z17{α:Type _}{β:Type _}{f:α->β}{l:List α}{i:Nat}:(List.map f l)[i]?=Option.map f l[i]?:=List.getElem?_map
theorem gy{p:Prop}[Decidable p]:(decide p=true)=p:=decide_eq_true_eq
theorem z19{A B:Option Addr}{n m c d:Nat}(h:Value.slice A n c=Value.slice B m d):A=B/\n=m/\c=d:=Value.slice.inj h
theorem z20{α:Type _}{l k:List α}{i:Nat}(h:i<List.length l):(l++k)[i]?=l[i]?:=List.getElem?_append_left h
theorem z21{α:Type _}{l k:List α}{i:Nat}(h:List.length l<=i):(l++k)[i]?=k[i - List.length l]?:=List.getElem?_append_right h
theorem z22{α:Type _}{l:List α}{i:Nat}:l[i]?=none↔List.length l<=i:=List.getElem?_eq_none_iff
theorem z24{α:Type _}:List.length ([]:List α)=0:=List.length_nil
inductive aT where
 | mk (k:Int) (ns nl s:ByteArray) (ex ar:List aT)
def cu(w:World)(b off:Nat)(vs:List Value):Prop:=∀j v,vs[j]?=some v->w.cell? ⟨b,off+j,none⟩=some v
mutual
def dA(w:World)(F:Nat->Prop):aT->List Value->Prop
 | .mk k ns nl s ex ar,cs=>∃A c A' c',cs=[.int .i64 k,.string ns,.string nl,.string s,.slice A ex.length c,.slice A' ar.length c']/\
    ex.length<6000000000000/\ar.length<6000000000000/\
    (0<ex.length->∃b off,A=some ⟨b,off,none⟩/\F b/\jq w F ex b off)/\(0<ar.length->∃b off,A'=some ⟨b,off,none⟩/\F b/\jq w F ar b off)
def jq(w:World)(F:Nat->Prop):List aT->Nat->Nat->Prop
 | [],_,_=>True
 | c::l,b,off=>(∃cs,cu w b off cs/\dA w F c cs)/\jq w F l b (off+6)
end
def jO(w:World)(F:Nat->Prop)(l:List aT)(A:Option Addr)(n:Nat):Prop:=n=l.length/\(0<l.length->∃b off,A=some ⟨b,off,none⟩/\F b/\jq w F l b off)
theorem jO.len{w:World}{F:Nat->Prop}{l:List aT}{A:Option Addr}{n:Nat}(h:jO w F l A n):n=l.length:=h.1
theorem dA.form'{w:World}{F:Nat->Prop}{k:Int}{ns nl s:ByteArray}{ex ar:List aT}{cs:List Value}(h:dA w F (.mk k ns nl s ex ar) cs):
 ∃A c A' c',cs=[.int .i64 k,.string ns,.string nl,.string s,.slice A ex.length c,.slice A' ar.length c']/\
  ex.length<6000000000000/\ar.length<6000000000000/\
  (0<ex.length->∃b off,A=some ⟨b,off,none⟩/\F b/\jq w F ex b off)/\(0<ar.length->∃b off,A'=some ⟨b,off,none⟩/\F b/\jq w F ar b off):=by
 rw[dA] at h;exact h
theorem dA.form{w:World}{F:Nat->Prop}{k:Int}{ns nl s:ByteArray}{ex ar:List aT}{cs:List Value}(h:dA w F (.mk k ns nl s ex ar) cs):
 ∃A n c A' n' c',cs=[.int .i64 k,.string ns,.string nl,.string s,.slice A n c,.slice A' n' c']/\
  n<6000000000000/\n'<6000000000000/\jO w F ex A n/\jO w F ar A' n':=by
 obtain⟨A,c,A',c',e,h1,h2,h3,h4⟩:=h.form';exact⟨A,_,c,A',_,c',e,h1,h2,⟨rfl,h3⟩,⟨rfl,h4⟩⟩
theorem dA.shape{w:World}{F:Nat->Prop}{ch:aT}{v0 v1 v2 v3 v4 v5:Value}(h:dA w F ch [v0,v1,v2,v3,v4,v5]):
 ∃k ns nl s A n c A' n' c',v0= .int .i64 k/\v1= .string ns/\v2= .string nl/\v3= .string s/\v4= .slice A n c/\v5= .slice A' n' c':=by
 obtain⟨k,ns,nl,s,ex,ar⟩:=ch;obtain⟨A,n,c,A',n',c',e,_⟩:=h.form;simp only[List.cons.injEq,and_true] at e;obtain⟨e0,e1,e2,e3,e4,e5⟩:=e;exact⟨k,ns,nl,s,A,n,c,A',n',c',e0,e1,e2,e3,e4,e5⟩
theorem cu.keep{w w':World}{b off:Nat}{vs:List Value}(h:cu w b off vs)(hb:w'.heap[b]?=w.heap[b]?):cu w' b off vs:=
 λj v hv=>(World.cell?_of_block (w:=w) (a:=(b,off+j)) hb).trans (h j v hv)
theorem cu.lt{w:World}{b off:Nat}{v:Value}{vs:List Value}(h:cu w b off (v::vs)):b<w:=
 block_lt_of_cell (h 0 v rfl)
mutual
theorem dA.keep{w w':World}{F F':Nat->Prop}(hF:∀b,F b->b<w.heap.size->F' b/\w'.heap[b]?=w.heap[b]?):∀(c:aT) (cs:List Value),dA w F c cs->dA w' F' c cs
 | .mk k ns nl s ex ar,cs,h=>by
   obtain⟨A,c,A',c',e,hl,zS,h1,h2⟩:=h.form';rw[dA];refine⟨A,c,A',c',e,hl,zS,λhp=>?_,λhp=>?_⟩
   ·obtain⟨b,off,ha,hb,hr⟩:=h1 hp;have aN:b<w.heap.size:=jq.lt' ex b off (by intro e;rw[e] at hp;simp at hp) hr;exact⟨b,off,ha,(hF b hb aN).1,jq.keep hF ex b off (hF b hb aN).2 hr⟩
   obtain⟨b,off,ha,hb,hr⟩:=h2 hp;have aN:b<w.heap.size:=jq.lt' ar b off (by intro e;rw[e] at hp;simp at hp) hr;exact⟨b,off,ha,(hF b hb aN).1,jq.keep hF ar b off (hF b hb aN).2 hr⟩
theorem jq.keep{w w':World}{F F':Nat->Prop}(hF:∀b,F b->b<w.heap.size->F' b/\w'.heap[b]?=w.heap[b]?):∀(l:List aT) (b off:Nat),w'.heap[b]?=w.heap[b]?->jq w F l b off->jq w' F' l b off
 | [],_,_,_,_=>by rw[jq];trivial
 | c::l,b,off,hb,h=>by
   rw[jq] at h ⊢;obtain⟨⟨cs,hc,hr⟩,hl⟩:=h;exact⟨⟨cs,hc.keep hb,dA.keep hF c cs hr⟩,jq.keep hF l b (off+6) hb hl⟩
theorem jq.lt'{w:World}{F:Nat->Prop}:∀(l:List aT) (b off:Nat),l≠[]->jq w F l b off->b<w
 | [],_,_,dD,_=>absurd rfl dD
 | c::l,b,off,_,h=>by
   rw[jq] at h;obtain⟨⟨cs,hc,hr⟩,hl⟩:=h
   cases c with
   | mk k ns nl s ex ar=>
     obtain⟨A,c,A',c',e,_⟩:=hr.form';rw[e] at hc;exact hc.lt
end
theorem dA.below{w w':World}{B:Nat}{c:aT}{cs:List Value}(h:dA w (· <B) c cs)(hb:Below B w w'):dA w' (· <B) c cs:=
 dA.keep (λb rX _=>⟨rX,hb.block b rX⟩) c cs h
theorem dA.wide{w:World}{F F':Nat->Prop}{c:aT}{cs:List Value}(h:dA w F c cs)(hF:∀b,F b->b<w.heap.size->F' b):dA w F' c cs:=
 dA.keep (λb hb hl=>⟨hF b hb hl,rfl⟩) c cs h
theorem jq.below{w w':World}{B:Nat}{l:List aT}{b off:Nat}(h:jq w (· <B) l b off)(GH:b<B)(hb:Below B w w'):jq w' (· <B) l b off:=
 jq.keep (λb rX _=>⟨rX,hb.block b rX⟩) l b off (hb.block b GH) h
theorem jO.below{w w':World}{B:Nat}{l:List aT}{A:Option Addr}{n:Nat}(h:jO w (· <B) l A n)(hb:Below B w w'):jO w' (· <B) l A n:=
 ⟨h.1,λhp=>let ⟨b,off,hA,hB,hr⟩:=h.2 hp;⟨b,off,hA,hB,hr.below hB hb⟩⟩
theorem jq.get{w:World}{F:Nat->Prop}:∀{l:List aT} {b off:Nat} (_:jq w F l b off) (i:Nat) (c:aT),l[i]?=c->∃cs,cu w b (off+i*6) cs/\dA w F c cs
 | [],_,_,_,i,c,h=>by simp at h
 | c::l,b,off,h,0,c',hi=>by
   rw[jq] at h;obtain rfl:c=c':=(by simpa using hi);simpa using h.1
 | c::l,b,off,h,i+1,c',hi=>by
   rw[jq] at h;have:=h.2.get i c' (by simpa using hi);rwa [show off+6+i*6=off+(i+1)*6 by omega] at this
theorem iU{k:IntKind}{a b:Int}(h:a=b):Ending.returned (.int k a)= .returned (.int k b):=by rw[h]
theorem ard{k:IntKind}{a b:Nat}(h:a=b):Ending.returned (.int k (a:Int))= .returned (.int k (b:Int)):=by rw[h]
theorem aK{a b:Bool}(h:a=b):Ending.returned a= .returned b:=by rw[h]
theorem aC{w:World}{g:Nat}{o:Obj}(h:w.heap[g]?=o):g<w:=(Array.getElem?_eq_some_iff.1 h).1
theorem dE{w:World}{g p i:Nat}{v:Value}{o:Option Obj}(dD:g≠p)(h:w.heap[g]?=o):(w.setCell (p,i) v).heap[g]?=o:=(Below.heap_setCell w (p,i) v g dD).trans h
theorem fK{w:World}{g:Nat}{o o':Obj}(h:w.heap[g]?=o):(w.alloc o').heap[g]?=o:=(Below.heap_alloc w o' g (aC h)).trans h
theorem dM{w:World}{g i:Nat}{v:Value}{cs:Array Value}{t:TypeId}(h:w.heap[g]?=Zc cs t):(w.setCell (g,i) v).heap[g]?=Zc (cs.setIfInBounds i v) t:=heap_setCell_same w g i cs t v h
theorem bD{w:World}{g:Nat}{v u:Value}{t:TypeId}(h:w.heap[g]?=Zc #[u] t):(w.setCell g v).heap[g]?=Zc #[v] t:=by rw[dM h];rfl
theorem cO{w:World}{g:Nat}{v u0 u1 u2 u3 u4 u5:Value}{t:TypeId}(h:w.heap[g]?=Zc #[u0,u1,u2,u3,u4,u5] t):(w.setCell (g,1) v).heap[g]?=Zc #[u0,v,u2,u3,u4,u5] t:=by rw[dM h];rfl
theorem cZ{w:World}{g:Nat}{v u0 u1 u2 u3 u4 u5:Value}{t:TypeId}(h:w.heap[g]?=Zc #[u0,u1,u2,u3,u4,u5] t):(w.setCell (g,2) v).heap[g]?=Zc #[u0,u1,v,u3,u4,u5] t:=by rw[dM h];rfl
theorem df{w:World}{g:Nat}{v u0 u1 u2 u3 u4 u5:Value}{t:TypeId}(h:w.heap[g]?=Zc #[u0,u1,u2,u3,u4,u5] t):(w.setCell (g,3) v).heap[g]?=Zc #[u0,u1,u2,v,u4,u5] t:=by rw[dM h];rfl
theorem bF{M:Nat->Prop}{w w':World}{g:Nat}{o:Obj}(h:w.heap[g]?=o)(hk:Kept M w w')(hm:¬M g):w'.heap[g]?=o:=(hk.block g (aC h) hm).trans h
theorem ae{w w':World}{g:Nat}{o:Obj}(h:w.heap[g]?=o)(hk:Below w w w'):w'.heap[g]?=o:=(hk.block g (aC h)).trans h
theorem apg(k:Int):(k==1)=true\/((k==1)=false/\(k==2)=true)\/((k==1)=false/\(k==2)=false/\(k==3)=true)\/((k==1)=false/\(k==2)=false/\(k==3)=false):=by
 cases (k==1)<;>cases (k==2)<;>cases (k==3)<;>simp
theorem af(w:World)(o:Obj):∃w1,w.alloc o=w1/\w1.heap[w.heap.size]?=some o/\w.heap.size<w1.heap.size/\Below w w w1:=
 ⟨_,rfl,heap_alloc_new w o,by simp,(Below.refl _ _).alloc (Nat.le_refl _) _⟩
theorem ed(w:World)(o o':Obj):∃w1,(w.alloc o).alloc o'=w1/\w1.heap[w.heap.size]?=some o/\w1.heap[w.heap.size+1]?=some o'/\w.heap.size+1<w1.heap.size/\Below w w w1:=
 ⟨_,rfl,heap_alloc2_old w o o',heap_alloc2_new w o o',by simp,((Below.refl _ _).alloc (Nat.le_refl _) _).alloc (by simp) _⟩
theorem gG{w:World}{g:Nat}{t:TypeId}{fr:Nat×Nat}{v0 v1 v2 v3 v4 v5:Value}(h:w.heap[g]?=some (.cells #[v0,v1,v2,v3,v4,v5] t fr)):
 w.cell? g=v0/\w.cell? (g,1)=v1/\w.cell? (g,2)=v2/\w.cell? (g,3)=v3/\w.cell? (g,4)=v4/\w.cell? (g,5)=v5:=by
 refine⟨?_,?_,?_,?_,?_,?_⟩<;>rw[cell_of_row w g _ _ _ _ h]<;>rfl
theorem dw{w:World}{g:Nat}{t:TypeId}{fr:Nat×Nat}{v0 v1:Value}(h:w.heap[g]?=some (.cells #[v0,v1] t fr)):
 w.cell? g=v0/\w.cell? (g,1)=v1:=by
 refine⟨?_,?_⟩<;>rw[cell_of_row w g _ _ _ _ h]<;>rfl
theorem aO{w:World}{g:Nat}{t:TypeId}{fr:Nat×Nat}{v0:Value}(h:w.heap[g]?=some (.cells #[v0] t fr)):
 w.cell? g=v0:=by
 rw[cell_of_row w g _ _ _ _ h];rfl
theorem cu.six{w:World}{b off:Nat}{v0 v1 v2 v3 v4 v5:Value}(h:cu w b off [v0,v1,v2,v3,v4,v5]):
 w.cell? (b,off)=v0/\w.cell? (b,off+1)=v1/\w.cell? (b,off+2)=v2/\w.cell? (b,off+3)=v3/\w.cell? (b,off+4)=v4/\w.cell? (b,off+5)=v5:=
 ⟨h 0 _ rfl,h 1 _ rfl,h 2 _ rfl,h 3 _ rfl,h 4 _ rfl,h 5 _ rfl⟩
theorem jO.elem{w:World}{B:Nat}{l:List aT}{A:Option Addr}{n:Nat}(h:jO w (· <B) l A n){i:Nat}(hi:i<n):
 ∃b off ch v0 v1 v2 v3 v4 v5,A=some ⟨b,off,none⟩/\l[i]?=some ch/\dA w (· <B) ch [v0,v1,v2,v3,v4,v5]/\cu w b (off+i*6) [v0,v1,v2,v3,v4,v5]:=by
 obtain⟨hn,h⟩:=h;obtain⟨b,off,hA,_,hr⟩:=h (by omega);obtain⟨⟨k,ns,nl,s,ex,ar⟩,hc⟩:∃ch,l[i]?=some ch:=⟨_,List.getElem?_eq_getElem (by omega)⟩;obtain⟨cs,fJ,kP⟩:=hr.get i _ hc;obtain⟨A3,n3,c3,A4,n4,c4,rfl,_⟩:=kP.form;exact⟨b,off,_,_,_,_,_,_,_,hA,hc,kP,fJ⟩
theorem dN{P:Program}(T E sz:Nat)(hT:P.underlying T=some (.slice E))(hE:∀w,(sizeOf E).run P w= .ok sz w){A:Option Addr}{b off:Nat}(hA:A=(b,off))(n c i:Nat)(hi:i<n)(W:World):
 (Instr.indexAt T (A,n,c) i).run P W= .ok (b,off+i*sz) W:=by
 subst hA;have h0:(0:Int)<=(i:Int)/\(i:Int)<(n:Int):=(by omega);simp[Instr.indexAt,run_underlying hT,asIntOf,h0,hE,Addr.add,hi]
theorem dA.here{w:World}{F:Nat->Prop}{c:aT}{cs:List Value}(h:dA w F c cs):dA w (· <w) c cs:=h.wide (λ_ _ h=>h)
theorem jO.here{w:World}{F:Nat->Prop}{l:List aT}{A:Option Addr}{n:Nat}(h:jO w F l A n):jO w (· <w) l A n:=⟨h.1,λhp=>by
 obtain⟨b,off,hA,hb,hr⟩:=h.2 hp;have aN:=jq.lt' l b off (by intro e;rw[e] at hp;simp at hp) hr
 exact⟨b,off,hA,aN,jq.keep (λb _ hl=>⟨hl,rfl⟩) l b off rfl hr⟩⟩
theorem dA.drew{w:World}{F:Nat->Prop}{c:aT}{cs:List Value}(h:dA w F c cs):dA w.drew F c cs:=dA.keep (w:=w) (w':=w.drew) (λ_ hb _=>⟨hb,rfl⟩) c cs h
theorem jO.LU{w wr:World}{B:Nat}{l:List aT}{A:Option Addr}{n:Nat}(h:jO w (· <B) l A n)(hb:Below B w wr){i:Nat}(hi:i<n)(c:Nat):
 ∃b off ch v0 v1 v2 v3 v4 v5,Hid (l[i]?=some ch)/\dA wr (· <B) ch [v0,v1,v2,v3,v4,v5]/\
  wr.cell? ⟨b,off+i*6,none⟩=some v0/\wr.cell? ⟨b,off+i*6+1,none⟩=some v1/\wr.cell? ⟨b,off+i*6+2,none⟩=some v2/\
  wr.cell? ⟨b,off+i*6+3,none⟩=some v3/\wr.cell? ⟨b,off+i*6+4,none⟩=some v4/\wr.cell? ⟨b,off+i*6+5,none⟩=some v5/\
  ∀W,(Instr.indexAt 24 (A,n,c) i).run prog W= .ok (.pointer (some ⟨b,off+i*6,none⟩)) W:=by
 obtain⟨b,off,ch,v0,v1,v2,v3,v4,v5,hA,hc,kP,fJ⟩:=(h.below hb).elem hi;obtain⟨p0,p1,p2,p3,p4,p5⟩:=fJ.six;exact⟨b,off,_,_,_,_,_,_,_,Lib.hid hc,kP,p0,p1,p2,p3,p4,p5,dN (P:=prog) 24 26 6 underlying24 (λw=>by kernel_rfl) hA n c i hi⟩
theorem jO.round{w wr:World}{l:List aT}{A:Option Addr}{n:Nat}(h:jO w (· <w) l A n)(hb:Below w w wr){i:Nat}(hi:i<n)(c:Nat):
 ∃b off ch v0 v1 v2 v3 v4 v5,Hid (l[i]?=some ch)/\dA wr (· <w) ch [v0,v1,v2,v3,v4,v5]/\
  wr.cell? ⟨b,off+i*6,none⟩=some v0/\wr.cell? ⟨b,off+i*6+1,none⟩=some v1/\wr.cell? ⟨b,off+i*6+2,none⟩=some v2/\
  wr.cell? ⟨b,off+i*6+3,none⟩=some v3/\wr.cell? ⟨b,off+i*6+4,none⟩=some v4/\wr.cell? ⟨b,off+i*6+5,none⟩=some v5/\
  ∀W,(Instr.indexAt 24 (A,n,c) i).run prog W= .ok (.pointer (some ⟨b,off+i*6,none⟩)) W:=h.LU hb hi c
theorem jO.first{w wr:World}{e:aT}{l:List aT}{A:Option Addr}{n:Nat}(h:jO w (· <w) (e::l) A n)(hb:Below w w wr)(c:Nat):
 ∃b off v0 v1 v2 v3 v4 v5,dA wr (· <w) e [v0,v1,v2,v3,v4,v5]/\
  wr.cell? ⟨b,off,none⟩=some v0/\wr.cell? ⟨b,off+1,none⟩=some v1/\wr.cell? ⟨b,off+2,none⟩=some v2/\
  wr.cell? ⟨b,off+3,none⟩=some v3/\wr.cell? ⟨b,off+4,none⟩=some v4/\wr.cell? ⟨b,off+5,none⟩=some v5/\0<n/\
  ∀W,(Instr.indexAt 24 (A,n,c) (0:Int)).run prog W= .ok (.pointer (some ⟨b,off,none⟩)) W:=by
 have hn:=h.len;rw[List.length_cons] at hn;obtain⟨b,off,ch,v0,v1,v2,v3,v4,v5,hc,hr,p0,p1,p2,p3,p4,p5,hi⟩:=h.round hb (i:=0) (by omega) c;have GI:e=ch:=(by have:=hc.out;simpa using this);subst GI;simp only[Nat.zero_mul,Nat.add_zero] at p0 p1 p2 p3 p4 p5 hi;exact⟨b,off,v0,v1,v2,v3,v4,v5,hr,p0,p1,p2,p3,p4,p5,by omega,hi⟩
mutual
theorem aT.ind{P:aT->Prop}(h:∀k ns nl s ex ar,(∀c∈ex,P c)->(∀c∈ar,P c)->P (.mk k ns nl s ex ar)):∀c,P c
 | .mk k ns nl s ex ar=>h k ns nl s ex ar (aT.Em h ex) (aT.Em h ar)
theorem aT.Em{P:aT->Prop}(h:∀k ns nl s ex ar,(∀c∈ex,P c)->(∀c∈ar,P c)->P (.mk k ns nl s ex ar)):∀l:List aT,∀c∈l,P c
 | []=>λ_ hc=>by cases hc
 | c::l=>λx hx=>by
   have h1:=aT.ind h c;have h2:=aT.Em h l
   rcases List.mem_cons.1 hx with e | hx
   ·exact e ▸ h1
   exact h2 x hx
end
theorem qN{l:List aT}{i:Nat}{c:aT}(h:Hid (l[i]?=c)):c∈l:=List.mem_of_getElem? h
theorem toList_eq{x y:ByteArray}(h:x.toList=y.toList):x=y:=by
 rw[Lib.toList_data,Lib.toList_data] at h;cases x;cases y;simpa[Array.toList_inj] using h
theorem Qs(b:ByteArray):b.toList.isEmpty=decide (b.size=0):=by
 rw[Lib.toList_data,Bool.eq_iff_iff]
 cases b with
 | mk d=>simp[ByteArray.size,Array.isEmpty_iff,Array.size_eq_zero_iff]
theorem aa1{b:ByteArray}(h:b.toList.isEmpty=false):1<=b.size:=by
 rw[Qs,decide_eq_false_iff_not] at h;omega
theorem abH{b:ByteArray}(h:b.toList.isEmpty=true):b.size=0:=by
 rw[Qs,decide_eq_true_eq] at h;exact h
def eqS(x y:ByteArray):Bool:=x.toList==y.toList
theorem iV{x y:ByteArray}:eqS x y=true↔x=y:=by
 unfold eqS;exact⟨λh=>toList_eq (by simpa using h),λh=>by rw[h];simp⟩
theorem Yl(x y:ByteArray):(x.toList==y.toList)=eqS x y:=rfl
theorem En{x y:ByteArray}(h:x.toList=y.toList):eqS x y=true:=iV.2 (toList_eq h)
theorem BG{x y:ByteArray}(h:¬x.toList=y.toList):eqS x y=false:=by unfold eqS;simpa using h
theorem nO(x y u v:ByteArray)(W:World):(binOp .eql 23 (.agg #[x,y]) (.agg #[u,v])).run prog W= .ok (eqS x u&&eqS y v:Bool) W:=by
 rw[run_eql_struct];by_cases h:x.toList=u.toList<;>by_cases h':y.toList=v.toList
 ·rw[En h,En h'];simp[go_sem,h,h']
 ·rw[En h,BG h'];simp[go_sem,h,h']
 ·rw[BG h];simp[go_sem,h]
 rw[BG h];simp[go_sem,h]
theorem Qu(x y u v:ByteArray)(W:World):(binOp .neq 23 (.agg #[x,y]) (.agg #[u,v])).run prog W= .ok (!(eqS x u&&eqS y v):Bool) W:=by
 rw[run_neq_struct];by_cases h:x.toList=u.toList<;>by_cases h':y.toList=v.toList
 ·rw[En h,En h'];simp[go_sem,h,h']
 ·rw[En h,BG h'];simp[go_sem,h,h']
 ·rw[BG h];simp[go_sem,h]
 rw[BG h];simp[go_sem,h]
abbrev Bw (w w':World):Prop:=Below w w w'
abbrev Cl (f:Nat) (a:Array Value) (w:World) (Q:Ending->World->Prop):Prop:=Calls prog f a w Q
abbrev Rt (f:Nat) (a:Array Value) (w:World) (v:Value):Prop:=Calls prog f a w λe w'=>e= .returned v/\Below w w w'
theorem zE{α:Sort _}(a:α):∃v,v=a:=⟨a,rfl⟩
theorem zF{α:Sort _}(a:α):∃v,a=v:=⟨a,rfl⟩
theorem zO{p:Prop}(h:p:=by omega):p:=h
theorem zP{p:Prop}(h:p:=by simp):p:=h
theorem zD{p:Prop}(h:p:=by decide):p:=h
theorem zK{p:Prop}(h:p:=by kernel_rfl):p:=h
theorem zL{p:Prop}(h:p:=by rfl):p:=h
theorem zS1{p:Prop}(h:p:=by simp;omega):p:=h
theorem zS2{p:Prop}(h:p:=by kernel_rfl):p:=h
theorem zS3{p:Prop}(h:p:=by rw[IntKind.wrap_i64];omega):p:=h
theorem zS4{p:Prop}(h:p:=by simp):p:=h
theorem zS5{p:Prop}(h:p:=by intro k hk;omega):p:=h
theorem zT1(p:Prop)[Decidable p](h:p:=by omega):decide p=true:=decide_eq_true h
theorem zT2(p:Prop)[Decidable p](h:¬p:=by omega):decide p=false:=decide_eq_false h
theorem zJ2{a b:Prop}(ha:a)(hb:b):Hid a/\Hid b:=⟨zH ha,zH hb⟩
theorem zK2{a b:Prop}(ha:a)(hb:b):a/\b:=⟨ha,hb⟩
theorem zJ3{a b c:Prop}(ha:a)(hb:b)(hc:c):Hid a/\Hid b/\Hid c:=⟨zH ha,zH hb,zH hc⟩
theorem zK3{a b c:Prop}(ha:a)(hb:b)(hc:c):a/\b/\c:=⟨ha,hb,hc⟩
theorem zJ4{a b c d:Prop}(ha:a)(hb:b)(hc:c)(hd:d):Hid a/\Hid b/\Hid c/\Hid d:=⟨zH ha,zH hb,zH hc,zH hd⟩
theorem zK4{a b c d:Prop}(ha:a)(hb:b)(hc:c)(hd:d):a/\b/\c/\d:=⟨ha,hb,hc,hd⟩
theorem zJ5{a b c d i:Prop}(ha:a)(hb:b)(hc:c)(hd:d)(hi:i):Hid a/\Hid b/\Hid c/\Hid d/\Hid i:=⟨zH ha,zH hb,zH hc,zH hd,zH hi⟩
theorem zK5{a b c d i:Prop}(ha:a)(hb:b)(hc:c)(hd:d)(hi:i):a/\b/\c/\d/\i:=⟨ha,hb,hc,hd,hi⟩
theorem zJ6{a b c d i j:Prop}(ha:a)(hb:b)(hc:c)(hd:d)(hi:i)(hj:j):Hid a/\Hid b/\Hid c/\Hid d/\Hid i/\Hid j:=⟨zH ha,zH hb,zH hc,zH hd,zH hi,zH hj⟩
theorem zK6{a b c d i j:Prop}(ha:a)(hb:b)(hc:c)(hd:d)(hi:i)(hj:j):a/\b/\c/\d/\i/\j:=⟨ha,hb,hc,hd,hi,hj⟩
theorem zJ7{a b c d i j k:Prop}(ha:a)(hb:b)(hc:c)(hd:d)(hi:i)(hj:j)(hk:k):Hid a/\Hid b/\Hid c/\Hid d/\Hid i/\Hid j/\Hid k:=⟨zH ha,zH hb,zH hc,zH hd,zH hi,zH hj,zH hk⟩
theorem zK7{a b c d i j k:Prop}(ha:a)(hb:b)(hc:c)(hd:d)(hi:i)(hj:j)(hk:k):a/\b/\c/\d/\i/\j/\k:=⟨ha,hb,hc,hd,hi,hj,hk⟩
theorem zJ8{a b c d i j k l:Prop}(ha:a)(hb:b)(hc:c)(hd:d)(hi:i)(hj:j)(hk:k)(hl:l):Hid a/\Hid b/\Hid c/\Hid d/\Hid i/\Hid j/\Hid k/\Hid l:=⟨zH ha,zH hb,zH hc,zH hd,zH hi,zH hj,zH hk,zH hl⟩
theorem zK8{a b c d i j k l:Prop}(ha:a)(hb:b)(hc:c)(hd:d)(hi:i)(hj:j)(hk:k)(hl:l):a/\b/\c/\d/\i/\j/\k/\l:=⟨ha,hb,hc,hd,hi,hj,hk,hl⟩
theorem zF2(w:World)(g:Nat){cs:Array Value}{t:TypeId}(h:w.heap[g]?=Zc cs t):w.frozen? g=false/\w.frozen? (g,1)=false:=⟨frozen_of_row w g 0 _ _ h,frozen_of_row w g 1 _ _ h⟩
theorem zF3(w:World)(g:Nat){cs:Array Value}{t:TypeId}(h:w.heap[g]?=Zc cs t):w.frozen? g=false/\w.frozen? (g,1)=false/\w.frozen? (g,2)=false:=⟨frozen_of_row w g 0 _ _ h,frozen_of_row w g 1 _ _ h,frozen_of_row w g 2 _ _ h⟩
theorem zF4(w:World)(g:Nat){cs:Array Value}{t:TypeId}(h:w.heap[g]?=Zc cs t):w.frozen? g=false/\w.frozen? (g,1)=false/\w.frozen? (g,2)=false/\w.frozen? (g,3)=false:=⟨frozen_of_row w g 0 _ _ h,frozen_of_row w g 1 _ _ h,frozen_of_row w g 2 _ _ h,frozen_of_row w g 3 _ _ h⟩
theorem zF5(w:World)(g:Nat){cs:Array Value}{t:TypeId}(h:w.heap[g]?=Zc cs t):w.frozen? g=false/\w.frozen? (g,1)=false/\w.frozen? (g,2)=false/\w.frozen? (g,3)=false/\w.frozen? (g,4)=false:=⟨frozen_of_row w g 0 _ _ h,frozen_of_row w g 1 _ _ h,frozen_of_row w g 2 _ _ h,frozen_of_row w g 3 _ _ h,frozen_of_row w g 4 _ _ h⟩
theorem zF6(w:World)(g:Nat){cs:Array Value}{t:TypeId}(h:w.heap[g]?=Zc cs t):w.frozen? g=false/\w.frozen? (g,1)=false/\w.frozen? (g,2)=false/\w.frozen? (g,3)=false/\w.frozen? (g,4)=false/\w.frozen? (g,5)=false:=⟨frozen_of_row w g 0 _ _ h,frozen_of_row w g 1 _ _ h,frozen_of_row w g 2 _ _ h,frozen_of_row w g 3 _ _ h,frozen_of_row w g 4 _ _ h,frozen_of_row w g 5 _ _ h⟩
theorem zF7(w:World)(g:Nat){cs:Array Value}{t:TypeId}(h:w.heap[g]?=Zc cs t):w.frozen? g=false/\w.frozen? (g,1)=false/\w.frozen? (g,2)=false/\w.frozen? (g,3)=false/\w.frozen? (g,4)=false/\w.frozen? (g,5)=false/\w.frozen? (g,6)=false:=⟨frozen_of_row w g 0 _ _ h,frozen_of_row w g 1 _ _ h,frozen_of_row w g 2 _ _ h,frozen_of_row w g 3 _ _ h,frozen_of_row w g 4 _ _ h,frozen_of_row w g 5 _ _ h,frozen_of_row w g 6 _ _ h⟩
theorem zF8(w:World)(g:Nat){cs:Array Value}{t:TypeId}(h:w.heap[g]?=Zc cs t):w.frozen? g=false/\w.frozen? (g,1)=false/\w.frozen? (g,2)=false/\w.frozen? (g,3)=false/\w.frozen? (g,4)=false/\w.frozen? (g,5)=false/\w.frozen? (g,6)=false/\w.frozen? (g,7)=false:=⟨frozen_of_row w g 0 _ _ h,frozen_of_row w g 1 _ _ h,frozen_of_row w g 2 _ _ h,frozen_of_row w g 3 _ _ h,frozen_of_row w g 4 _ _ h,frozen_of_row w g 5 _ _ h,frozen_of_row w g 6 _ _ h,frozen_of_row w g 7 _ _ h⟩
theorem zF9(w:World)(g:Nat){cs:Array Value}{t:TypeId}(h:w.heap[g]?=Zc cs t):w.frozen? g=false/\w.frozen? (g,1)=false/\w.frozen? (g,2)=false/\w.frozen? (g,3)=false/\w.frozen? (g,4)=false/\w.frozen? (g,5)=false/\w.frozen? (g,6)=false/\w.frozen? (g,7)=false/\w.frozen? (g,8)=false:=⟨frozen_of_row w g 0 _ _ h,frozen_of_row w g 1 _ _ h,frozen_of_row w g 2 _ _ h,frozen_of_row w g 3 _ _ h,frozen_of_row w g 4 _ _ h,frozen_of_row w g 5 _ _ h,frozen_of_row w g 6 _ _ h,frozen_of_row w g 7 _ _ h,frozen_of_row w g 8 _ _ h⟩
theorem zF10(w:World)(g:Nat){cs:Array Value}{t:TypeId}(h:w.heap[g]?=Zc cs t):w.frozen? g=false/\w.frozen? (g,1)=false/\w.frozen? (g,2)=false/\w.frozen? (g,3)=false/\w.frozen? (g,4)=false/\w.frozen? (g,5)=false/\w.frozen? (g,6)=false/\w.frozen? (g,7)=false/\w.frozen? (g,8)=false/\w.frozen? (g,9)=false:=⟨frozen_of_row w g 0 _ _ h,frozen_of_row w g 1 _ _ h,frozen_of_row w g 2 _ _ h,frozen_of_row w g 3 _ _ h,frozen_of_row w g 4 _ _ h,frozen_of_row w g 5 _ _ h,frozen_of_row w g 6 _ _ h,frozen_of_row w g 7 _ _ h,frozen_of_row w g 8 _ _ h,frozen_of_row w g 9 _ _ h⟩
theorem zF11(w:World)(g:Nat){cs:Array Value}{t:TypeId}(h:w.heap[g]?=Zc cs t):w.frozen? g=false/\w.frozen? (g,1)=false/\w.frozen? (g,2)=false/\w.frozen? (g,3)=false/\w.frozen? (g,4)=false/\w.frozen? (g,5)=false/\w.frozen? (g,6)=false/\w.frozen? (g,7)=false/\w.frozen? (g,8)=false/\w.frozen? (g,9)=false/\w.frozen? (g,10)=false:=⟨frozen_of_row w g 0 _ _ h,frozen_of_row w g 1 _ _ h,frozen_of_row w g 2 _ _ h,frozen_of_row w g 3 _ _ h,frozen_of_row w g 4 _ _ h,frozen_of_row w g 5 _ _ h,frozen_of_row w g 6 _ _ h,frozen_of_row w g 7 _ _ h,frozen_of_row w g 8 _ _ h,frozen_of_row w g 9 _ _ h,frozen_of_row w g 10 _ _ h⟩
theorem zF12(w:World)(g:Nat){cs:Array Value}{t:TypeId}(h:w.heap[g]?=Zc cs t):w.frozen? g=false/\w.frozen? (g,1)=false/\w.frozen? (g,2)=false/\w.frozen? (g,3)=false/\w.frozen? (g,4)=false/\w.frozen? (g,5)=false/\w.frozen? (g,6)=false/\w.frozen? (g,7)=false/\w.frozen? (g,8)=false/\w.frozen? (g,9)=false/\w.frozen? (g,10)=false/\w.frozen? (g,11)=false:=⟨frozen_of_row w g 0 _ _ h,frozen_of_row w g 1 _ _ h,frozen_of_row w g 2 _ _ h,frozen_of_row w g 3 _ _ h,frozen_of_row w g 4 _ _ h,frozen_of_row w g 5 _ _ h,frozen_of_row w g 6 _ _ h,frozen_of_row w g 7 _ _ h,frozen_of_row w g 8 _ _ h,frozen_of_row w g 9 _ _ h,frozen_of_row w g 10 _ _ h,frozen_of_row w g 11 _ _ h⟩
theorem zP1(w:World)(k mn mx el ck:Int)(ns nl sp:ByteArray)(A:Option Addr)(n c:Nat)(B:Option Addr)(m d:Nat)(pr:Int)(D:Option Addr)(q e:Nat):∃w1,w.alloc (Zc #[k,mn,mx,el,ck,ns,nl,sp,(A,n,c),(B,m,d),pr,(D,q,e)] 29)=w1/\w1.heap[w.heap.size]?=(Zc #[k,mn,mx,el,ck,ns,nl,sp,(A,n,c),(B,m,d),pr,(D,q,e)] 29)/\w.heap.size<w1.heap.size/\Below w w w1:=af w _
theorem zP2(w:World)(k mn mx el ck:Int)(ns nl sp:ByteArray)(A:Option Addr)(n c:Nat)(B:Option Addr)(m d:Nat)(pr:Int)(D:Option Addr)(q e:Nat)(o':Obj):∃w1,(w.alloc (Zc #[k,mn,mx,el,ck,ns,nl,sp,(A,n,c),(B,m,d),pr,(D,q,e)] 29)).alloc o'=w1/\w1.heap[w.heap.size]?=(Zc #[k,mn,mx,el,ck,ns,nl,sp,(A,n,c),(B,m,d),pr,(D,q,e)] 29)/\w1.heap[w.heap.size+1]?=some o'/\w.heap.size+1<w1.heap.size/\Below w w w1:=ed w _ o'
