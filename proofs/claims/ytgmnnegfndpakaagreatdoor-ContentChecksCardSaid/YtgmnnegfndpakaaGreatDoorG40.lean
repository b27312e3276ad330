import Derived.Test.YtgmnnegfndpakaaGreatDoorG39
set_option maxHeartbeats 20000000
set_option maxRecDepth 100000
namespace Go.Proofs.YtgmnnegfndpakaaGreatDoor
open Go Go.RowKit
theorem YU{l l':List Nat}(h1:∀s∈l,s<65536)(h2:∀s∈l',s<65536)(h:fH l=fH l'):l=l':=by
 refine adB h1 h2 ?_;unfold fH at h;have:=congrArg (λb:ByteArray=>b.data.toList) h;simpa using this
theorem XQ(x:List Nat):∀(l:List (List Nat)) (i:Nat),qR x l i=(qR x l 0).map (· +i)
 | [],_=>rfl
 | y::l,i=>by
   rw[qR,qR]
   split
   ·simp
   ·rw[XQ x l (i+1),XQ x l (0+1),Option.map_map]
    congr 1
    funext n;simp only[Function.comp];omega
theorem aaE(x y:List Nat):∀(l:List (List Nat)) (i:Nat),qR x (l++[y]) i=(match qR x l i with | some k=>some k | none=>if y=x then some (i+l.length) else none)
 | [],i=>by simp[qR]
 | z::l,i=>by
   rw[List.cons_append,qR,qR]
   split
   ·rfl
   ·rw[aaE x y l (i+1),z9]
    cases qR x l (i+1) with
    | some k=>rfl
    | none=>
      show (if y=x then some (i+1+l.length) else none)=if y=x then some (i+(l.length+1)) else none
      rw[show i+1+l.length=i+(l.length+1) by omega]
def acj(l:List (ByteArray×Int))(sets:List (List Nat)):Prop:=∀x:List Nat,(∀s∈x,s<65536)->dP eqS (fH x) l=(qR x sets 0).map λn=>(n:Int)
theorem acj.put{l:List (ByteArray×Int)}{sets:List (List Nat)}(h:acj l sets){y:List Nat}(hy:∀s∈y,s<65536)(hn:qR y sets 0=none):acj (jh eqS (fH y) (sets.length:Int) l) (sets++[y]):=by
 intro x hx;rw[Lr (λa b=>iV),h x hx,aaE];by_cases e:eqS (fH x) (fH y)=true
 ·obtain rfl:=YU hx hy (iV.1 e)
  rw[if_pos e,hn];simp
 ·rw[if_neg e]
  have dD:¬y=x:=λe'=>e (by rw[e'];exact iV.2 rfl)
  cases qR x sets 0 with
  | some k=>rfl
  | none=>simp[dD]
theorem acj.start:acj (jh eqS (fH [0]) (0:Int) []) [[0]]:=by
 have:=acj.put (l:=[]) (sets:=[]) (λx _=>rfl) (y:=[0]) (by intro s hs;rw[og] at hs;omega) rfl;simpa using this
theorem ahS(jD:Nat->List Nat){K x:Nat}(h:x<K)(sets:List (List Nat))(row:List Int):mkRow jD ((List.range K).drop x) sets row=match tN (jD x) sets with
 | none=>none
 | some r=>mkRow jD ((List.range K).drop (x+1)) r.1 (row++[r.2]):=by
 have hx:x<(List.range K).length:=by simpa using h
 rw[nZ hx,List.getElem_range,mkRow];cases tN (jD x) sets<;>rfl
theorem afk(jD:List Nat->Nat->List Nat)(K f k:Nat){sets:List (List Nat)}{s:List Nat}(h:sets[k]?=some s)(rows:List (List Int)):oU jD K (f+1) k sets rows=match mkRow (jD s) (List.range K) sets [] with
 | none=>none
 | some r=>oU jD K f (k+1) r.1 (rows++[r.2]):=by
 rw[oU,h]
 show (match mkRow (jD s) (List.range K) sets [] with
  | none=>none
  | some r=>oU jD K f (k+1) r.1 (rows++[r.2]))=_
 cases mkRow (jD s) (List.range K) sets []<;>rfl
theorem afl(jD:List Nat->Nat->List Nat)(K f k:Nat){sets:List (List Nat)}(h:sets[k]?=none)(rows:List (List Int)):oU jD K f k sets rows=some (sets,rows):=by
 cases f with
 | zero=>rfl
 | succ f=>rw[oU,h]
def VO:aT:=.mk 0 ⟨#[]⟩ ⟨#[]⟩ ⟨#[]⟩ [] []
def Jl(e lo hi:Int):aJ:=.mk 1 lo hi e VO 0 []
def awP:aJ:=.mk 3 1 1 0 VO 0 [Jl 0 1 1,Jl 1 0 1,Jl 2 0 (-1)]
def awQ:aJ:=.mk 5 1 1 0 VO 0 [Jl 0 0 1,Jl 1 1 1,Jl 2 1 2]
def awC:aJ:=.mk 4 1 1 0 VO 0 [Jl 0 1 1,Jl 1 1 1]
def awS:aJ:=.mk 3 1 1 0 VO 0 [Jl 0 1 1,Jl 1 1 1]
def kM(c:UInt8):Nm:=(⟨#[]⟩,⟨#[c]⟩)
def PN:List (List Nm):=[[kM 97],[kM 98],[kM 99,kM 100]]
theorem aw1:Fp awP PN [kM 97,kM 100,kM 99]=(true,3,0):=by kernel_rfl
theorem aw2:Fp awP PN [kM 97,kM 99,kM 98]=(false,2,0):=by kernel_rfl
theorem aw3:TG awP PN [kM 97]=([2,3],true,0):=by kernel_rfl
theorem aw4:Fp awQ PN [kM 100,kM 98,kM 99,kM 97]=(true,4,0):=by kernel_rfl
theorem aw6:Ls awC awS PN=(false,[kM 97,kM 98],0):=by kernel_rfl
theorem ahV{F:Fence}{n:Nat}{P:Program}{Q:Exit->Act->World->Prop}{a:Act}{w:World}{c:Code}{G:Type}(I:G->Act->World->Prop)(μ:G->Nat)(g0:G)(h0:I g0 a w)
 (round:∀g a w,I g a w->c.wpIn F n P (Exit.then (λa' w'=>∃g',I g' a' w'/\μ g'<μ g) Q) a w):(Code.loop c).wpIn F n P Q a w:=by
 classical
 have least:∀(R:Nat->Prop) (n:Nat),R n->∃m,R m/\∀k,R k->m<=k:=by
  intro R n
  induction n using Nat.strongRecOn with
  | _ n ih=>
    intro hn;by_cases h:∃k,k<n/\R k
    ·obtain⟨k,hk,hr⟩:=h
     exact ih k hk hr
    ·exact⟨n,hn,λk hk=>by
      rcases Nat.lt_or_ge k n with h1 | h1
      ·exact absurd ⟨k,h1,hk⟩ h
      ·exact h1⟩
 have key:∀(a:Act) (w:World),∃m:Nat,(∃g,I g a w)->(∃g,I g a w/\μ g=m)/\∀g,I g a w->m<=μ g:=by
  intro a w;by_cases h:∃g,I g a w
  ·obtain⟨g,hg⟩:=h
   obtain⟨m,h1,h2⟩:=least (λm=>∃g,I g a w/\μ g=m) (μ g) ⟨g,hg,rfl⟩;exact⟨m,λ_=>⟨h1,λg hg=>h2 _ ⟨g,hg,rfl⟩⟩⟩
  ·exact⟨0,λh'=>absurd h' h⟩
 refine wpIn_loop (λa w=>∃g,I g a w) (λa w=>Classical.choose (key a w)) ⟨g0,h0⟩ ?_;intro a w hI;obtain⟨⟨g,hg,hm⟩,-⟩:=Classical.choose_spec (key a w) hI;refine wpIn_mono (round g a w hg) ?_;intro e a' w' hp
 cases e with
 | normal=>
   obtain⟨g',FK,aN⟩:=hp;exact⟨⟨g',FK⟩,Nat.lt_of_le_of_lt ((Classical.choose_spec (key a' w') ⟨g',FK⟩).2 g' FK) (by rw[<-hm];exact aN)⟩
 | _=>exact hp
theorem Ba:∀(n:Nat) (l:List Nat),l.Nodup->(∀s∈l,s<n)->l.length<=n
 | 0,l,_,h=>by
   cases l with
   | nil=>exact zR _
   | cons x l=>exact absurd (h x zP) (Nat.not_lt_zero _)
 | n+1,l,hd,h=>by
   by_cases hn:n∈l
   ·have h1:=Ba n (l.erase n) (hd.erase n) λs hs=>by
     have h2:=h s (List.mem_of_mem_erase hs)
     have h3:s≠n:=λe=>by
      subst e;exact absurd hs (λhs=>by rw[hd.mem_erase_iff] at hs;exact hs.1 rfl)
     omega
    have h2:=List.length_erase_of_mem hn;have h3:0<l.length:=List.length_pos_of_mem hn;omega
   ·exact Nat.le_succ_of_le (Ba n l hd λs hs=>by
     have h2:=h s hs;have h3:s≠n:=λe=>hn (e ▸ hs)
     omega)
def jv(m:eQ)(s:Nat):Prop:=(m.all=[]->s<=m.places.length)/\(m.all≠[]->s<4 ^ m.all.length)
theorem jv.zero(m:eQ):jv m 0:=⟨λ_=>Nat.zero_le _,λ_=>Nat.pow_pos zD⟩
theorem jv.lt{m:eQ}{s:Nat}(h:jv m s):s<uf m:=by
 unfold uf;by_cases e:m.all=[]
 ·have:=h.1 e
  have h4:0<4 ^ m.all.length:=Nat.pow_pos zD;omega
 ·have:=h.2 e;omega
theorem agG{n:Nat}(h:n<=6):4 ^ n<=4096:=zT (Nat.pow_le_pow_right zD h) zD
theorem jv.small{m:eQ}{s:Nat}(fQ:mQ m)(h:jv m s):m.all≠[]->s<4096:=λe=>Nat.lt_of_lt_of_le (h.2 e) (agG fQ.len.2.1)
theorem EO{m:eQ}(fQ:mQ m):uf m<=4297:=by
 unfold uf;have:=agG fQ.len.2.1;have:=fQ.len.1;omega
theorem jv.ok{m:eQ}{s:Nat}(fQ:mQ m)(h:jv m s):YR m s:=⟨h.1,by have:=h.lt;have:=EO fQ;omega⟩
theorem jv.step{m:eQ}{s:Nat}(fQ:mQ m)(h:jv m s){y:Stp}(hy:y∈gK m s):jv m y.dst:=by
 refine⟨(anw fQ (h.ok fQ) hy (h.small fQ)).1,λe=>?_⟩;unfold gK at hy
 split at hy
 ·rename_i dW
  exact absurd (List.isEmpty_iff.1 dW) e
 ·have:=aaD m.all s 0 1 s y (λp hp=>(fQ.all p hp).2.2) hy 0 zO zO (h.2 e)
  omega
structure qU (m:eQ) (N:Nat) (st:CQ):Prop where
 nd:st.list.Nodup
 ok:∀s∈st.list,jv m s
 back:∀t s,s∈fZ t st.back->s∈st.list
 len:∀t,(fZ t st.back).length<=N
theorem qU.size{m:eQ}{N:Nat}{st:CQ}(h:qU m N st):st.list.length<=uf m:=Ba _ _ h.nd λs hs=>(h.ok s hs).lt
theorem qU.mono{m:eQ}{N N':Nat}{st:CQ}(h:qU m N st)(hN:N<=N'):qU m N' st:=⟨h.nd,h.ok,h.back,λt=>zT (h.len t) hN⟩
theorem qU.start(m:eQ):qU m 0 ⟨[0],[]⟩:=⟨zP,λs hs=>by rw[og] at hs;subst hs;exact jv.zero m,λt s hs=>by simp[fZ] at hs,λt=>by simp[fZ]⟩
theorem qU.step{m:eQ}(fQ:mQ m){N:Nat}{st:CQ}(h:qU m N st){s:Nat}(hs:s∈st.list){x:Stp}(hx:x∈gK m s):qU m (N+1) (oq m s st x):=by
 unfold oq
 split
 ·have ahr:∀y∈st.list,y∈(if x.dst∈st.list then st.list else st.list++[x.dst]):=λy hy=>by
   split
   ·exact hy
   ·exact List.mem_append.2 (.inl hy)
  refine⟨?_,λy hy=>?_,λt y hy=>?_,λt=>?_⟩
  ·dsimp only
   split
   ·exact h.nd
   ·rename_i hn
    rw[List.nodup_append]
    exact⟨h.nd,zP,λa ha b hb e=>by
     rw[og] at hb;subst hb
     exact hn (e ▸ ha)⟩
  ·dsimp only at hy
   split at hy
   ·exact h.ok y hy
   ·rcases List.mem_append.1 hy with hy | hy
    ·exact h.ok y hy
    ·rw[og] at hy
     subst hy;exact(h.ok s hs).step fQ hx
  ·dsimp only at hy
   rw[KD] at hy
   split at hy
   ·rcases List.mem_append.1 hy with hy | hy
    ·exact ahr y (h.back _ y hy)
    ·rw[og] at hy
     subst hy;exact ahr y hs
   ·exact ahr y (h.back _ y hy)
  ·dsimp only
   rw[KD]
   split
   ·rw[z5,z16]
    have:=h.len x.dst;omega
   ·have:=h.len t
    omega
 ·exact h.mono zO
theorem UT{m:eQ}{s:Nat}{st:CQ}{x:Stp}:∃r,(oq m s st x).list=st.list++r:=by
 unfold oq
 split
 ·dsimp only
  split
  ·exact⟨[],zP⟩
  ·exact⟨_,rfl⟩
 ·exact⟨[],zP⟩
theorem Lt{m:eQ}{s:Nat}:∀(l:List Stp) (st:CQ),∃r,(l.foldl (oq m s) st).list=st.list++r
 | [],st=>⟨[],zP⟩
 | x::l,st=>by
   obtain⟨r,hr⟩:=UT (m:=m) (s:=s) (st:=st) (x:=x);obtain⟨r',Aq⟩:=Lt l (oq m s st x);exact⟨r++r',by rw[List.foldl_cons,Aq,hr,List.append_assoc]⟩
theorem qU.fold{m:eQ}(fQ:mQ m){s:Nat}:∀(l:List Stp) {N:Nat} {st:CQ},qU m N st->s∈st.list->(∀x∈l,x∈gK m s)->qU m (N+l.length) (l.foldl (oq m s) st)
 | [],N,st,h,_,_=>h
 | x::l,N,st,h,hs,hl=>by
   have h1:=h.step fQ hs (hl x zP);obtain⟨r,hr⟩:=UT (m:=m) (s:=s) (st:=st) (x:=x);have h2:=qU.fold fQ l h1 (by rw[hr];exact List.mem_append.2 (.inl hs)) (λy hy=>hl y (by simp[hy]));rw[List.foldl_cons,z9,show N+(l.length+1)=N+1+l.length by omega];exact h2
structure OA (m:eQ) (k:Nat) (st:CQ):Prop where
 ok:qU m (k*300000) st
 le:k<=st.list.length
 eq:QJ m (uf m+1 - k) k st=gB m
theorem OA.start(m:eQ):OA m 0 ⟨[0],[]⟩:=⟨by simpa using qU.start m,Nat.zero_le _,rfl⟩
theorem OA.next{m:eQ}(fQ:mQ m)(uw:∀s,(gK m s).length<=300000){k:Nat}{st:CQ}(h:OA m k st){s:Nat}(hs:st.list[k]?=some s):OA m (k+1) ((gK m s).foldl (oq m s) st):=by
 have aN:=(List.getElem?_eq_some_iff.1 hs).1;have bY:=h.ok.size;refine⟨?_,?_,?_⟩
 ·have h1:=qU.fold fQ (gK m s) h.ok (z13 hs) (λx hx=>hx)
  exact h1.mono (by have:=uw s;omega)
 ·obtain⟨r,hr⟩:=Lt (m:=m) (s:=s) (gK m s) st
  rw[hr,z5];omega
 ·rw[<-h.eq,show uf m+1 - k=(uf m+1 - (k+1))+1 by omega,QJ,hs]
  rfl
theorem OA.stop{m:eQ}{k:Nat}{st:CQ}(h:OA m k st)(hk:k=st.list.length):st=gB m:=by
 have bY:=h.ok.size;rw[<-h.eq,show uf m+1 - k=(uf m - k)+1 by omega,QJ,hk,List.getElem?_eq_none (zR _)]
structure EP (L:List Nat) (st:List Nat×List Nat):Prop where
 nd:st.1.Nodup
 sub:∀s∈st.1,s∈L
 stk:∀s∈st.2,s∈st.1
theorem EP.step{L:List Nat}{st:List Nat×List Nat}(h:EP L st){t:Nat}(ht:t∈L):EP L (lU st t):=by
 unfold lU
 split
 ·exact h
 ·rename_i hn
  refine⟨?_,λs hs=>?_,λs hs=>?_⟩
  ·dsimp only
   rw[List.nodup_append]
   exact⟨h.nd,zP,λa ha b hb e=>by
    rw[og] at hb;subst hb
    exact hn (e ▸ ha)⟩
  ·rcases List.mem_append.1 hs with hs | hs
   ·exact h.sub s hs
   ·rw[og] at hs;subst hs;exact ht
  ·rcases List.mem_append.1 hs with hs | hs
   ·exact List.mem_append.2 (.inl (h.stk s hs))
   ·exact List.mem_append.2 (.inr hs)
theorem EP.fold{L:List Nat}:∀(l:List Nat) {st:List Nat×List Nat},EP L st->(∀t∈l,t∈L)->EP L (l.foldl lU st)
 | [],_,h,_=>h
 | t::l,st,h,hl=>EP.fold l (h.step (hl t zP)) λx hx=>hl x (by simp[hx])
theorem ahW{j:Nat}{st:List Nat×List Nat}(h:j+st.2.length=st.1.length)(t:Nat):j+(lU st t).2.length=(lU st t).1.length:=by
 unfold lU
 split
 ·exact h
 ·simp only[z5,z16];omega
theorem OB{j:Nat}:∀(l:List Nat) {st:List Nat×List Nat},j+st.2.length=st.1.length->j+(l.foldl lU st).2.length=(l.foldl lU st).1.length
 | [],_,h=>h
 | t::l,_,h=>OB l (ahW h t)
theorem EP.size{m:eQ}{N:Nat}{lv:CQ}(hl:qU m N lv){st:List Nat×List Nat}(h:EP lv.list st):st.1.length<=uf m:=Ba _ _ h.nd λs hs=>(hl.ok s (h.sub s hs)).lt
structure OC (m:eQ) (j:Nat) (st:List Nat×List Nat):Prop where
 ok:EP (gB m).list st
 len:j+st.2.length=st.1.length
 eq:(drain (gB m).back (uf m+1 - j) st).1=aao m
theorem OC.start(m:eQ){N:Nat}(hl:qU m N (gB m)):OC m 0 ((gB m).list.filter (wH m),(gB m).list.filter (wH m)):=
 ⟨⟨hl.nd.filter _,λs hs=>(List.mem_filter.1 hs).1,λs hs=>hs⟩,Nat.zero_add _,rfl⟩
theorem OC.next{m:eQ}{N:Nat}(hl:qU m N (gB m)){j:Nat}{st:List Nat×List Nat}(h:OC m j st){s:Nat}(hs:st.2.getLast?=some s):OC m (j+1) ((fZ s (gB m).back).foldl lU (st.1,st.2.dropLast)):=by
 have bY:=h.ok.size hl
 have dD:st.2≠[]:=λe=>by rw[e] at hs;cases hs
 have kD:0<st.2.length:=List.length_pos_iff.2 dD;have hlen:=h.len;refine⟨EP.fold _ ⟨h.ok.nd,h.ok.sub,λx hx=>h.ok.stk x (List.dropLast_subset _ hx)⟩ (λt ht=>hl.back s t ht),OB _ (by rw[List.length_dropLast];dsimp only;omega),?_⟩;rw[<-h.eq,show uf m+1 - j=(uf m+1 - (j+1))+1 by omega,drain,hs]
theorem OC.stop{m:eQ}{N:Nat}(hl:qU m N (gB m)){j:Nat}{st:List Nat×List Nat}(h:OC m j st)(hs:st.2=[]):st.1=aao m:=by
 have bY:=h.ok.size hl;have hlen:=h.len;rw[<-h.eq];rw[hs] at hlen;rw[show uf m+1 - j=(uf m - j)+1 by simp at hlen;omega,drain,hs];rfl
end Go.Proofs.YtgmnnegfndpakaaGreatDoor
namespace Go.Proofs.YtgmnnegfndpakaaGreatDoor
open Go.RowKit
theorem qh.ap5{w:World}{base g:Nat}{T:Nat->Prop}{back:List (Nat×List Nat)}(h:qh w base T g back)(t:Nat):
 ∃A c,(∀V:World,V.heap[g]?=w.heap[g]?->(Instr.lookup 191 (.map (some g)) (.int .i64 (t:Int)) false).run Tryz.prog V= .ok (.slice A (fZ t back).length c) V)/\ax w base 3 1 aV (fZ t back) (.slice A (fZ t back).length c)/\∀k,(Value.slice A (fZ t back).length c).ownBlock=some k->T k:=by
 obtain⟨A,c,h1,h2,h3⟩:=h.look t;refine⟨A,c,λV hV=>?_,h2,h3⟩;obtain⟨L,k1,k2,k3,k4⟩:=h;have hh:=qX (P:=Tryz.prog) (zv:=.slice none 0 0) qJ Tryz.underlying191 (λW=>by kernel_rfl) k1 (t:Int) false;have hh':=qX (P:=Tryz.prog) (zv:=.slice none 0 0) qJ Tryz.underlying191 (λW=>by kernel_rfl) (k1.keep hV) (t:Int) false;have he:=hh.symm.trans h1;simp only[Bool.false_eq_true,if_false,Result.ok.injEq,and_true] at he hh';exact hh'.trans (by rw[he])
theorem qh.aB1{w w1:World}{base g t s:Nat}{T:Nat->Prop}{back:List (Nat×List Nat)}(h:qh w base T g back)(hT:∀k,T k->k≠g){A:Option Addr}{c:Nat}{v':Value}
 (hl:(Instr.lookup 191 (.map (some g)) (.int .i64 (t:Int)) false).run Tryz.prog w= .ok (.slice A (fZ t back).length c) w)
 (dD:(Value.slice A (fZ t back).length c).ownBlock≠some g) (hk:∀k,k<w.heap.size->(Value.slice A (fZ t back).length c).ownBlock≠some k->w1.heap[k]?=w.heap[k]?)
 (ho:ax w1 base 3 1 aV (fZ t back++[s]) v') (hb:v'.ownBlock=(Value.slice A (fZ t back).length c).ownBlock\/∃k,v'.ownBlock=some k/\w.heap.size<=k):
 ∃W',(Instr.mapUpdate 191 (.map (some g)) (.int .i64 (t:Int)) v').run Tryz.prog w1= .ok () W'/\qh W' base (λk=>(T k/\(Value.slice A (fZ t back).length c).ownBlock≠some k)\/v'.ownBlock=some k) g (QI t s back)/\(∀b,b≠g->W'.heap[b]?=w1.heap[b]?)/\W'.heap.size=w1.heap.size/\Kept (· =g) w1 W':=by
 obtain⟨L,h1,h2,h3,h4⟩:=h
 have hV:Dx L t= .slice A (fZ t back).length c:=by
  have hh:=qX (P:=Tryz.prog) (zv:=.slice none 0 0) qJ Tryz.underlying191 (λW=>by kernel_rfl) h1 (t:Int) false;have he:=hh.symm.trans hl;simp only[Bool.false_eq_true,if_false,Result.ok.injEq,and_true] at he;rw[<-he];unfold Dx;cases dP jL (t:Int) L<;>rfl
 have aN:=h1.lt;have iY:gQ w1 g vM id L:=h1.keep (hk g aN dD);have bG:=ED (P:=Tryz.prog) qJ Tryz.underlying191 iY (t:Int) v';obtain⟨W',hW,hp1,hp2,hp3,hp4⟩:=iY.put (l':=jh jL (t:Int) v' L);refine⟨W',bG.trans (by rw[hW]),⟨_,hp1,λt'=>?_,λt1 t2 k hn eu=>?_,λt' k eu=>?_⟩,hp2,hp3,hp4⟩
 ·unfold Dx
  rw[AY,KD];by_cases e:t'=t
  ·subst e
   rw[if_pos rfl,if_pos rfl];refine ho.bu λk eu=>hp2 k ?_;rintro rfl
   rcases hb with hb | ⟨k2,hb,hs⟩
   ·exact dD (hb ▸ eu)
   ·rw[hb] at eu
    cases eu;omega
  ·rw[if_neg (cne e),if_neg e]
   have h5:ax w1 base 3 1 aV (fZ t' back) (Dx L t'):=(h2 t').grown λk eu dm=>hk k eu (by
    rw[<-hV]
    exact h3 t' t k e dm.symm)
   exact h5.bu λk eu=>hp2 k (hT k (h4 t' k eu))
 ·unfold Dx at eu ⊢
  rw[AY] at eu ⊢
  have new:∀(t' k:Nat),t'≠t->v'.ownBlock=some k->(Dx L t').ownBlock≠some k:=λt' k hn eu dm=>by
   rcases hb with hb | ⟨k2,hb,hs⟩
   ·exact h3 t' t k hn dm (by rw[hV,<-hb];exact eu)
   ·rw[hb] at eu
    cases eu;have:=((h2 t').block_lt dm).2;omega
  by_cases e1:t1=t
  ·subst e1
   rw[if_pos rfl] at eu;rw[if_neg (cne (Ne.symm hn))];exact new t2 k (Ne.symm hn) eu
  ·rw[if_neg (cne e1)] at eu
   by_cases e2:t2=t
   ·subst e2
    rw[if_pos rfl];intro dm;exact new t1 k e1 dm eu
   ·rw[if_neg (cne e2)]
    exact h3 t1 t2 k hn eu
 ·unfold Dx at eu
  rw[AY] at eu;by_cases e:t'=t
  ·subst e
   rw[if_pos rfl] at eu;exact .inr eu
  ·rw[if_neg (cne e)] at eu
   exact .inl ⟨h4 t' k eu,by rw[<-hV];exact h3 t' t k e eu⟩
structure mD (W:World) (base g1 g2 lc:Nat) (Z:Nat->Prop) (kb k:Nat) (back:List (Nat×List Nat)) (ml list:List Nat) (v:Value) (T:Nat->Prop):Prop where
 back:qh W base T g1 back
 mark:jY W g2 ml
 cell:W.heap[lc]?=some (.cells #[v] 58)
 own:ax W base 3 1 aV list v
 kc:W.heap[kb]?=some (.cells #[.int .i64 (k:Int)] 3)
 vz:∀q,v.ownBlock=some q->Z q/\¬T q/\q≠kb
 tz:∀q,T q->Z q/\q≠kb/\∃cs,W.heap[q]?=some (.cells cs 3)
 ne:g1≠g2/\kb≠lc/\kb≠g1/\kb≠g2/\lc≠g1/\lc≠g2
 zz:∀q,Z q->q≠g1/\q≠g2/\q≠lc
section
variable {W:World} {base g1 g2 lc:Nat} {Z:Nat->Prop} {kb k:Nat} {back:List (Nat×List Nat)} {ml list:List Nat} {v:Value} {T:Nat->Prop}
theorem mD.tlt(h:mD W base g1 g2 lc Z kb k back ml list v T){q:Nat}(hq:T q):q<W.heap.size:=by
 obtain⟨cs,h1⟩:=(h.tz q hq).2.2;exact aC h1
theorem mD.keep(h:mD W base g1 g2 lc Z kb k back ml list v T){W':World}(hs:W.heap.size<=W'.heap.size)(hb:∀q,q<W.heap.size->(Z q\/q=g1\/q=g2\/q=lc\/q=kb)->W'.heap[q]?=W.heap[q]?):mD W' base g1 g2 lc Z kb k back ml list v T where
 back:=h.back.keep λq hq=>by
  rcases hq with hq | rfl
  ·exact hb q (h.tlt hq) (.inl (h.tz q hq).1)
  ·exact hb q h.back.lt (.inr (.inl rfl))
 mark:=h.mark.keep (hb g2 h.mark.lt (.inr (.inr (.inl rfl))))
 cell:=(hb lc (aC h.cell) (.inr (.inr (.inr (.inl rfl))))).trans h.cell
 own:=h.own.bu λq hq=>hb q (h.own.block_lt hq).2 (.inl (h.vz q hq).1)
 kc:=(hb kb (aC h.kc) (.inr (.inr (.inr (.inr rfl))))).trans h.kc
 vz:=h.vz
 tz q hq:=by
  obtain⟨h1,h2,cs,h3⟩:=h.tz q hq;exact⟨h1,h2,cs,(hb q (aC h3) (.inl h1)).trans h3⟩
 ne:=h.ne
 zz:=h.zz
theorem mD.below(h:mD W base g1 g2 lc Z kb k back ml list v T){W':World}(hb:Bw W W'):mD W' base g1 g2 lc Z kb k back ml list v T:=h.keep hb.size λq hq _=>hb.block q hq
theorem mD.auo(h:mD W base g1 g2 lc Z kb k back ml list v T){Z':Nat->Prop}(hz:∀q,Z q->q<W.heap.size->Z' q)(hzz:∀q,Z' q->q≠g1/\q≠g2/\q≠lc):mD W base g1 g2 lc Z' kb k back ml list v T:=
 { h with vz:=λq hq=>⟨hz q (h.vz q hq).1 (h.own.block_lt hq).2,(h.vz q hq).2⟩,tz:=λq hq=>⟨hz q (h.tz q hq).1 (h.tlt hq),(h.tz q hq).2⟩,zz:=hzz }
theorem mD.aB2(h:mD W base g1 g2 lc Z kb k back ml list v T){W':World}{kb' k':Nat}(hs:W.heap.size<=W'.heap.size)(hb:∀q,q<W.heap.size->W'.heap[q]?=W.heap[q]?)(hk:W'.heap[kb']?=some (.cells #[.int .i64 (k':Int)] 3))(yw:W.heap.size<=kb'):mD W' base g1 g2 lc Z kb' k' back ml list v T:=by
 have h1:=h.keep hs λq hq _=>hb q hq;have a1:=h.back.lt;have a2:=h.mark.lt;have a3:=aC h.cell
 exact { h1 with
  kc:=hk
  vz:=λq hq=>⟨(h.vz q hq).1,(h.vz q hq).2.1,by have:=(h.own.block_lt hq).2;omega⟩
  tz:=λq hq=>⟨(h.tz q hq).1,by have:=h.tlt hq;omega,(h1.tz q hq).2.2⟩
  ne:=⟨h.ne.1,zO,zO,zO,h.ne.2.2.2.2⟩ }
theorem mD.see(h:mD W base g1 g2 lc Z kb k back ml list v T)(t:Nat):
 ∃W',(Instr.mapUpdate 122 (.map (some g2)) (.int .i64 (t:Int)) (.bool true)).run Tryz.prog W= .ok () W'/\mD W' base g1 g2 lc Z kb k back (ml++[t]) list v T/\(∀b,b≠g2->W'.heap[b]?=W.heap[b]?)/\W'.heap.size=W.heap.size/\Kept (· =g2) W W':=by
 obtain⟨W',h1,h2,h3,h4,h5⟩:=h.mark.put t;refine⟨W',h1,?_,h3,h4,h5⟩
 exact {
  back:=h.back.keep λq hq=>h3 q (by
   rcases hq with hq | rfl
   ·exact(h.zz q (h.tz q hq).1).2.1
   ·exact h.ne.1)
  mark:=h2
  cell:=(h3 lc h.ne.2.2.2.2.2).trans h.cell
  own:=h.own.bu λq hq=>h3 q (h.zz q (h.vz q hq).1).2.1
  kc:=(h3 kb h.ne.2.2.2.1).trans h.kc
  vz:=h.vz
  tz:=λq hq=>by
   obtain⟨k1,k2,cs,k3⟩:=h.tz q hq;exact⟨k1,k2,cs,(h3 q (h.zz q k1).2.1).trans k3⟩
  ne:=h.ne
  zz:=h.zz }
theorem mD.push(h:mD W base g1 g2 lc Z kb k back ml list v T)(t s:Nat)(hlen:(fZ t back).length<1000000000000)(eY:base<=W.heap.size)(XR:∀q,W.heap.size<=q->Z q){W8:World}(hW8:W.alloc (.cells #[.int .i64 (s:Int)] 3)=W8):
 ∃A c n v' W9 KF,(∀V:World,V.heap[g1]?=W.heap[g1]?->(Instr.lookup 191 (.map (some g1)) (.int .i64 (t:Int)) false).run Tryz.prog V= .ok (.slice A n c) V)/\
  (Builtin.append_ #[58,58] 58 #[.slice A n c,.slice (some ⟨W.heap.size,0,none⟩) 1 1]).run Tryz.prog W8= .ok v' W9/\
  (Instr.mapUpdate 191 (.map (some g1)) (.int .i64 (t:Int)) v').run Tryz.prog W9= .ok () KF/\
  mD KF base g1 g2 lc Z kb k (QI t s back) ml list v (λq=>(T q/\(Value.slice A n c).ownBlock≠some q)\/v'.ownBlock=some q)/\
  (∀q,q<W.heap.size->W8.heap[q]?=W.heap[q]?)/\(∀q,q<W.heap.size->¬T q->W9.heap[q]?=W.heap[q]?)/\(∀q,q<W.heap.size->¬T q->q≠g1->KF.heap[q]?=W.heap[q]?)/\Kept (λq=>T q\/q=g1) W KF:=by
 obtain⟨Ej,adI,S8,hs8,eX⟩:=af W (.cells #[.int .i64 (s:Int)] 3);obtain rfl:Ej=W8:=adI.symm.trans hW8;have h8:=h.below eX;obtain⟨A,c,hl,ho,ht⟩:=h8.back.ap5 t;obtain⟨v',W9,bG,zq,rQ,FQ⟩:=Jk Ej base (fZ t back) _ ho W.heap.size 1 s (aO S8) hlen zO 58;have ahX:∀q,T q->q≠g1:=λq hq=>(h.zz q (h.tz q hq).1).1;have hblk:∀q,q<Ej.heap.size->¬T q->W9.heap[q]?=Ej.heap[q]?:=λq hq hn=>rQ.block q hq (λe=>hn (ht q e.symm));have lV:¬T g1:=λhq=>ahX g1 hq rfl
 obtain⟨KF,hu,jB,anC,bY,pz⟩:=h8.back.aB1 ahX (s:=s) (hl Ej rfl) (λe=>lV (ht g1 e)) (λq hq hn=>rQ.block q hq (λe=>hn e.symm)) zq (by
  rcases FQ with e | e
  ·exact .inl e
  ·exact .inr ⟨_,e,zR _⟩)
 have hs9:Ej.heap.size<=W9.heap.size:=rQ.size;have b8:∀q,q<W.heap.size->Ej.heap[q]?=W.heap[q]?:=eX.block;have b9:∀q,q<W.heap.size->¬T q->W9.heap[q]?=W.heap[q]?:=λq hq hn=>(hblk q zO hn).trans (b8 q hq);have Sm:∀q,q<W.heap.size->¬T q->q≠g1->KF.heap[q]?=W.heap[q]?:=λq hq hn dD=>(anC q dD).trans (b9 q hq hn)
 have hTT:∀q,v'.ownBlock=some q->T q\/Ej.heap.size<=q:=λq hq=>by
  rcases FQ with e | e
  ·exact .inl (ht q (by rw[<-e];exact hq))
  ·rw[e] at hq
   exact .inr (by have:=zI hq;omega)
 have hnT:∀q,(v.ownBlock=some q\/q=g2\/q=lc\/q=kb)->¬T q:=λq hq hT=>by
  rcases hq with hq | rfl | rfl | rfl
  ·exact(h.vz q hq).2.1 hT
  ·exact(h.zz _ (h.tz _ hT).1).2.1 rfl
  ·exact(h.zz _ (h.tz _ hT).1).2.2 rfl
  ·exact(h.tz _ hT).2.1 rfl
 refine⟨A,c,_,v',W9,KF,λV hV=>hl V (hV.trans (b8 g1 h.back.lt).symm),bG,hu,?_,b8,b9,Sm,?_⟩
 ·exact {
   back:=jB
   mark:=h.mark.keep (Sm g2 h.mark.lt (hnT g2 (.inr (.inl rfl))) (Ne.symm h.ne.1))
   cell:=(Sm lc (aC h.cell) (hnT lc (.inr (.inr (.inl rfl)))) h.ne.2.2.2.2.1).trans h.cell
   own:=h.own.bu λq hq=>Sm q (h.own.block_lt hq).2 (hnT q (.inl hq)) (h.zz q (h.vz q hq).1).1
   kc:=(Sm kb (aC h.kc) (hnT kb (.inr (.inr (.inr rfl)))) h.ne.2.2.1).trans h.kc
   vz:=λq hq=>⟨(h.vz q hq).1,λhT=>by
    have h1:=(h.own.block_lt hq).2
    rcases hT with hT | hT
    ·exact(h.vz q hq).2.1 hT.1
    ·rcases hTT q hT with hT | hT
     ·exact(h.vz q hq).2.1 hT
     ·omega,(h.vz q hq).2.2⟩
   tz:=λq hq=>by
    have h1:T q\/Ej.heap.size<=q:=by
     rcases hq with hq | hq
     ·exact .inl hq.1
     ·exact hTT q hq
    have h2:∃cs,KF.heap[q]?=some (.cells cs 3):=by
     rcases hq with hq | hq
     ·obtain⟨-,-,cs,h5⟩:=h8.tz q hq.1
      exact⟨cs,(anC q (ahX q hq.1)).trans ((rQ.block q (aC h5) (λe=>hq.2 e.symm)).trans h5)⟩
     ·obtain⟨cs,h5⟩:=zq.bC hq
      refine⟨cs,(anC q ?_).trans h5⟩
      rcases hTT q hq with h6 | h6
      ·exact ahX q h6
      ·have:=h.back.lt;omega
    rcases h1 with h1 | h1
    ·exact⟨(h.tz q h1).1,(h.tz q h1).2.1,h2⟩
    ·exact⟨XR q zO,by have:=aC h.kc;omega,h2⟩
   ne:=h.ne
   zz:=h.zz }
 ·exact⟨pz.os.trans (rQ.os.trans eX.os),pz.tape.trans (rQ.tape.trans eX.tape),pz.output.trans (rQ.output.trans eX.output),by rw[bY];omega,λq hq hn=>Sm q hq (λe=>hn (.inl e)) (λe=>hn (.inr e))⟩
theorem mD.add(h:mD W base g1 g2 lc Z kb k back ml list v T)(t:Nat)(hlen:list.length<1000000000000)(eY:base<=W.heap.size)(XR:∀q,W.heap.size<=q->Z q){W8:World}(hW8:W.alloc (.cells #[.int .i64 (t:Int)] 3)=W8):
 ∃v' W9,(Builtin.append_ #[58,58] 58 #[v,.slice (some ⟨W.heap.size,0,none⟩) 1 1]).run Tryz.prog W8= .ok v' W9/\W9.heap[lc]?=some (.cells #[v] 58)/\
  mD (W9.setCell ⟨lc,0,none⟩ v') base g1 g2 lc Z kb k back ml (list++[t]) v' T/\Kept (λq=>Z q\/q=lc) W (W9.setCell ⟨lc,0,none⟩ v')/\
  (∀q,q<W.heap.size->v.ownBlock≠some q->W9.heap[q]?=W.heap[q]?):=by
 obtain⟨Ej,adI,S8,hs8,eX⟩:=af W (.cells #[.int .i64 (t:Int)] 3);obtain rfl:Ej=W8:=adI.symm.trans hW8;have h8:=h.below eX;obtain⟨v',W9,bG,zq,rQ,FQ⟩:=Jk Ej base list _ h8.own W.heap.size 1 t (aO S8) hlen zO 58;have hs9:Ej.heap.size<=W9.heap.size:=rQ.size;have b9:∀q,q<W.heap.size->v.ownBlock≠some q->W9.heap[q]?=W.heap[q]?:=λq hq hn=>(rQ.block q zO (λe=>hn e.symm)).trans (eX.block q hq)
 have FV:∀q,(T q\/q=g1\/q=g2\/q=lc\/q=kb)->v.ownBlock≠some q:=λq hq e=>by
  obtain⟨a,b,c⟩:=h.vz q e;obtain⟨d1,d2,d3⟩:=h.zz q a
  rcases hq with hq | rfl | rfl | rfl | rfl
  ·exact b hq
  ·exact d1 rfl
  ·exact d2 rfl
  ·exact d3 rfl
  ·exact c rfl
 have hc9:W9.heap[lc]?=some (.cells #[v] 58):=(b9 lc (aC h.cell) (FV lc (.inr (.inr (.inr (.inl rfl)))))).trans h.cell
 have hv':∀q,v'.ownBlock=some q->v.ownBlock=some q\/Ej.heap.size<=q:=λq hq=>by
  rcases FQ with e | e
  ·exact .inl (by rw[<-e];exact hq)
  ·rw[e] at hq
   exact .inr (by have:=zI hq;omega)
 have hvl:∀q,v'.ownBlock=some q->q≠lc:=λq hq e=>by
  rcases hv' q hq with h1 | h1
  ·exact(h.zz q (h.vz q h1).1).2.2 e
  ·have:=aC h.cell;omega
 have aIo:(W9.setCell ⟨lc,0,none⟩ v').heap.size=W9.heap.size:=by simp
 have bS:∀q,q<W.heap.size->v.ownBlock≠some q->q≠lc->(W9.setCell ⟨lc,0,none⟩ v').heap[q]?=W.heap[q]?:=λq hq hn hl=>(gq hl).trans (b9 q hq hn);refine⟨v',W9,bG,hc9,?_,?_,b9⟩
 ·exact {
   back:=h.back.keep λq hq=>by
    rcases hq with hq | rfl
    ·exact bS q (h.tlt hq) (FV q (.inl hq)) (h.zz q (h.tz q hq).1).2.2
    ·exact bS q h.back.lt (FV q (.inr (.inl rfl))) (Ne.symm h.ne.2.2.2.2.1)
   mark:=h.mark.keep (bS g2 h.mark.lt (FV g2 (.inr (.inr (.inl rfl)))) (Ne.symm h.ne.2.2.2.2.2))
   cell:=bD hc9
   own:=zq.bu λq hq=>gq (hvl q hq)
   kc:=(bS kb (aC h.kc) (FV kb (.inr (.inr (.inr (.inr rfl))))) h.ne.2.1).trans h.kc
   vz:=λq hq=>by
    rcases hv' q hq with h1 | h1
    ·exact h.vz q h1
    ·exact⟨XR q zO,λhT=>by have:=h.tlt hT;omega,by have:=aC h.kc;omega⟩
   tz:=λq hq=>by
    obtain⟨k1,k2,cs,k3⟩:=h.tz q hq;exact⟨k1,k2,cs,(bS q (aC k3) (FV q (.inl hq)) (h.zz q k1).2.2).trans k3⟩
   ne:=h.ne
   zz:=h.zz }
 ·have k9:Kept (λq=>Z q\/q=lc) W W9:=⟨rQ.os.trans eX.os,rQ.tape.trans eX.tape,rQ.output.trans eX.output,zO,λq hq hn=>b9 q hq (λe=>hn (.inl (h.vz q e).1))⟩
  exact k9.setCell (p:=⟨lc,0,none⟩) (.inl (.inr rfl)) _
end
theorem ax.abr{w:World}{base:Nat}{l:List Nat}{A:Option Addr}{n c:Nat}(h:ax w base 3 1 aV l (.slice A n c))(hn:l.length=n){i:Nat}(hi:i<n):
 ∃g x,Hid (l[i]?=some x)/\(Value.slice A n c).ownBlock=some g/\(∃cs,w.heap[g]?=some (.cells cs 3))/\w.cell? ⟨g,i,none⟩=some (.int .i64 (x:Int))/\∀W,(Instr.indexAt 58 (.slice A n c) (.int .i64 (i:Int))).run Tryz.prog W= .ok (.pointer (some ⟨g,i,none⟩)) W:=by
 obtain⟨A',c',e,aI,-,-⟩:=h.row jd zD
 rcases h.2 with ⟨e2,hz⟩ | ⟨g,cap,cur,e2,hg,hh,-,-,-,-⟩
 ·omega
 ·simp only[Value.slice.injEq] at e e2
  obtain⟨rfl,-,rfl⟩:=e;obtain⟨rfl,-,rfl⟩:=e2;rw[hn] at aI;have kK:=aI;obtain⟨b,off,hA,_,hc⟩:=aI.2 zO;simp only[Option.some.injEq,Addr.mk.injEq,and_true] at hA;obtain⟨rfl,rfl⟩:=hA;have hx:l[i]?=some (l[i]'zO):=z6 _;have h1:=hc i _ hx 0 _ rfl;rw[Nat.mul_one,Nat.add_zero,Nat.zero_add] at h1;obtain⟨b2,ahT,x2,H2,h2,dO⟩:=kK.nat hi c;have aB3:=dO w;refine⟨_,_,zH hx,rfl,⟨_,hh⟩,h1,?_⟩
  exact dN 58 3 1 Tryz.underlying58 (λw=>by kernel_rfl) rfl n c i hi |> λh W=>by have:=h W;rwa [Nat.mul_one,Nat.zero_add] at this
structure xG (W:World) (base g8:Nat) (out stk:List Nat) (v:Value):Prop where
 own:ax W base 3 1 aV stk v
 mark:jY W g8 out
 lt:g8<base
theorem xG.below{W W':World}{base g8:Nat}{out stk:List Nat}{v:Value}(h:xG W base g8 out stk v)(hb:Bw W W'):xG W' base g8 out stk v:=
 ⟨h.own.bu λq hq=>hb.block q (h.own.block_lt hq).2,h.mark.keep (hb.block g8 h.mark.lt),h.lt⟩
theorem xG.push{W:World}{base g8:Nat}{out stk:List Nat}{v:Value}(h:xG W base g8 out stk v)(t:Nat)(hlen:stk.length<1000000000000)(eY:base<=W.heap.size){W8:World}(hW8:W.alloc (.cells #[.int .i64 (t:Int)] 3)=W8):
 ∃v' W9 KF,(Builtin.append_ #[58,58] 58 #[v,.slice (some ⟨W.heap.size,0,none⟩) 1 1]).run Tryz.prog W8= .ok v' W9/\
  (Instr.mapUpdate 122 (.map (some g8)) (.int .i64 (t:Int)) (.bool true)).run Tryz.prog W9= .ok () KF/\xG KF base g8 (out++[t]) (stk++[t]) v'/\Kept (λq=>q=g8\/base<=q) W KF:=by
 obtain⟨Ej,adI,S8,hs8,eX⟩:=af W (.cells #[.int .i64 (t:Int)] 3);obtain rfl:Ej=W8:=adI.symm.trans hW8;have h8:=h.below eX;obtain⟨v',W9,bG,zq,rQ,FQ⟩:=Jk Ej base stk _ h8.own W.heap.size 1 t (aO S8) hlen zO 58;have hg:∀q,some q=v.ownBlock->base<=q:=λq hq=>(h.own.block_lt hq.symm).1;have hm9:jY W9 g8 out:=h8.mark.keep (rQ.block g8 h8.mark.lt (λe=>by have:=hg g8 e;have:=h.lt;omega));obtain⟨KF,hu,VP,ho,bY,pz⟩:=hm9.put t;have hs9:Ej.heap.size<=W9.heap.size:=rQ.size;refine⟨v',W9,KF,bG,hu,⟨zq.bu λq hq=>ho q (by have:=(zq.block_lt hq).1;have:=h.lt;omega),VP,h.lt⟩,?_⟩;exact⟨pz.os.trans (rQ.os.trans eX.os),pz.tape.trans (rQ.tape.trans eX.tape),pz.output.trans (rQ.output.trans eX.output),zO,λq hq hn=>(ho q (λe=>hn (.inl e))).trans ((rQ.block q zO (λe=>hn (.inr (hg q e)))).trans (eX.block q hq))⟩
theorem Jo(l:List Nat):(l.flatMap aV).length=l.length*1:=by
 induction l with
 | nil=>rfl
 | cons x l ih=>rw[List.flatMap_cons,z5,ih,z9];show 1+l.length*1=_;omega
theorem ax.pop{w:World}{base:Nat}{l:List Nat}{A:Option Addr}{n c:Nat}(h:ax w base 3 1 aV l (.slice A n c))(hn:l.length=n)(hp:0<n):ax w base 3 1 aV l.dropLast (.slice A (n - 1) c):=by
 obtain⟨h1,h2⟩:=h
 have hd:l.dropLast.length=n - 1:=by rw[List.length_dropLast,hn]
 rcases h2 with ⟨e,hz⟩ | ⟨g,cap,cur,e,hg,hh,GK,yg,mP,kU⟩
 ·omega
 ·simp only[Value.slice.injEq] at e
  obtain⟨rfl,-,rfl⟩:=e
  have dD:l≠[]:=λe=>by rw[e] at hn;simp at hn;omega
  refine⟨by rw[<-Jo l.dropLast],.inr ⟨g,c,cur,by rw[hd],hg,hh,zO,yg,mP,?_⟩⟩;have h5:=List.dropLast_concat_getLast dD;rw[<-h5,List.flatMap_append] at kU;have h6:=congrArg (List.take (n - 1)) kU;rw[List.take_take,List.take_append_of_le_length (by rw[Jo,hd];omega)] at h6;have h7:(l.dropLast.flatMap aV).take (n - 1)=l.dropLast.flatMap aV:=List.take_of_length_le (by rw[Jo,hd];omega);rw[h7,h5,hn] at h6;rw[hd,Nat.mul_one,<-h6]
  congr 1
  omega
theorem xG.pop{W:World}{base g8:Nat}{out stk:List Nat}{A:Option Addr}{n c:Nat}(h:xG W base g8 out stk (.slice A n c))(hn:stk.length=n)(hp:0<n):xG W base g8 out stk.dropLast (.slice A (n - 1) c):=⟨h.own.pop hn hp,h.mark,h.lt⟩
theorem OD(R:Nat->Prop):∃n,(∀d,R d->n<=d)/\((∃d,R d)->R n):=by
 by_cases h:∃d,R d
 ·obtain⟨d,hd⟩:=h
  have key:∀d,R d->∃n,(∀d,R d->n<=d)/\R n:=by
   intro d
   induction d using Nat.strongRecOn with
   | _ d ih=>
     intro hd;by_cases h:∃k,k<d/\R k
     ·obtain⟨k,hk,hr⟩:=h
      exact ih k hk hr
     ·exact⟨d,λk hk=>by
       rcases Nat.lt_or_ge k d with h1 | h1
       ·exact absurd ⟨k,h1,hk⟩ h
       ·exact h1,hd⟩
  obtain⟨n,h1,h2⟩:=key d hd;exact⟨n,h1,λ_=>h2⟩
 ·exact⟨0,λd hd=>absurd ⟨d,hd⟩ h,λh'=>absurd h' h⟩
noncomputable def adK(R:Nat->Prop):Nat:=Classical.choose (OD R)
theorem ak5{R:Nat->Prop}{d:Nat}(h:R d):adK R<=d:=(Classical.choose_spec (OD R)).1 d h
theorem ak6{R:Nat->Prop}(h:∃d,R d):R (adK R):=(Classical.choose_spec (OD R)).2 h
theorem XT{F:Fence}{n:Nat}{P:Program}{ops:Array Oper}{rest:List Oper}{a:Act}{Q:Exit->Act->World->Prop}{w:World}{dst:Option Tmp}{s x:Operand}{t ty:TypeId}{pos:String}{after:Array Edge}
 (h:wpListIn F n P ops Q ({ dst:=dst,op:=.call { callee:=.builtin .append,args:=#[s,x],argTypes:=#[t,t] },type:=ty,pos:=pos,after:=after,guard:=none }::rest) a w):
 wpListIn F n P ops Q ({ dst:=dst,op:=.call { callee:=.builtin .append,args:=#[s,x],argTypes:=#[t,t] },type:=ty,pos:=pos,after:=after,guard:=none }::rest) a w:=h
end Go.Proofs.YtgmnnegfndpakaaGreatDoor
namespace Go.Proofs.YtgmnnegfndpakaaGreatDoor
open Go.RowKit
theorem alh(s:ByteArray)(l:List ByteArray)(A:Option Addr)(n c:Nat)(w:World)(F:Nat->Prop)(bQ:aY w F 1 mG l A n)(hn:n<6000000000000):
 Rt 80 #[.slice A n c,.string s] w (.int .i64 (kE (λx=>eqS s x) l 0)):=by
 have aI:=bQ.here (λx=>by simp[mG]);clear bQ;go_enter Tryz.func80,Tryz.ntmps80;go_wp2_with fail
 go_loopw [5,8] (λs5 si wr=>∃i:Nat,i<=n/\si= .int .i64 i/\Hid (kE (λx=>eqS s x) l 0=kE (λx=>eqS s x) (l.drop i) i)/\Bw w wr)
  (λ_ si _=>n - (intOf si).toNat)
 case atStart=>exact⟨0,zO,rfl,zH rfl,Below.refl _ _⟩
 case round=>
  obtain⟨i,hi,rfl,HL,dU⟩:=hrel;by_cases aN:i<n
  ·obtain⟨b',off,x,HX,p0,dO⟩:=(aI.below dU).str aN c
   have hd:decide (i<n)=true:=(by simp;omega);obtain⟨v,hv⟩:=zF (eqS s x);have e2:=(Yl s x).trans hv;have HS:=zH (yL (p:=λx=>eqS s x) HX.out);rw[hv] at HS;clear hv;cases v
   ·go_wp2_with fail
    go_roundw
    case rel=>exact⟨i+1,zO,by go_num,zH (by rw[HL.out,HS.out];rfl),dU⟩
    case measure=>simp[intOf];omega
   ·go_wp2_with fail
    go_ret;exact⟨iU (by rw[HL.out,HS.out];rfl),dU⟩
  ·have hd:decide (i<n)=false:=by simp;omega
   have zU:l.drop i=[]:=z14 (by have:=aI.len;omega);have HE:=zH zU;clear zU;go_wp2_with fail;go_ret;exact⟨iU (by rw[HL.out,HE.out];rfl),dU⟩
theorem ad2(s:ByteArray)(l:List ByteArray)(A:Option Addr)(n c:Nat)(w:World)(F:Nat->Prop)(bQ:aY w F 1 mG l A n)(hn:n<6000000000000):
 Rt 131 #[.slice A n c,.string s] w (.bool (l.any λx=>eqS s x)):=by
 have HC:=zH (alh s l A n c w F bQ hn);obtain⟨r,hr⟩:=zF (kE (λx=>eqS s x) l 0);have HD:Hid (decide (0<=r)=l.any λx=>eqS s x):=zH (by rw[<-hr];exact tY (λx=>eqS s x) l 0);rw[hr] at HC;clear bQ hr;go_enter Tryz.func131,Tryz.ntmps131;go_wp2_with fail;refine HC.out.mono ?_;rintro e w2 ⟨rfl,ag⟩;go_wp2_with fail;go_ret;exact⟨aK HD.out,ag⟩
def yH(w:World)(ba:Nat)(a:zZ)(nA:Option Addr)(nn nc:Nat)(sA:Option Addr)(sn sc:Nat):Prop:=
 w.heap[ba]?=some (.cells #[.slice nA nn nc,.slice sA sn sc] 129)/\aY w (· <w.heap.size) 2 dK a.names nA nn/\aY w (· <w.heap.size) 1 mG a.spaces sA sn/\nn<1000000/\sn<1000000
theorem yH.below{w w':World}{ba:Nat}{a:zZ}{nA:Option Addr}{nn nc:Nat}{sA:Option Addr}{sn sc:Nat}(h:yH w ba a nA nn nc sA sn sc)(hb:Bw w w'):yH w' ba a nA nn nc sA sn sc:=by
 obtain⟨h1,h2,h3,h4,h5⟩:=h;have hs:=hb.size;exact⟨ae h1 hb,(h2.below hb).imp λb (h:b<w.heap.size)=>by omega,(h3.below hb).imp λb (h:b<w.heap.size)=>by omega,h4,h5⟩
theorem aic(a:zZ)(s:ByteArray)(ba g1:Nat)(nA:Option Addr)(nn nc:Nat)(sA:Option Addr)(sn sc:Nat)(w:World)(h:yH w ba a nA nn nc sA sn sc)(hg:w.heap[g1]?=some (.cells #[.pointer (some ⟨ba,0,none⟩)] 91)):
 Rt 130 #[.string s,.pointer (some ⟨g1,0,none⟩)] w (.bool (a.spaces.any λx=>eqS s x)):=by
 obtain⟨h1,h2,h3,h4,h5⟩:=h;obtain⟨v,hv⟩:=zF ((a.spaces.any λx=>eqS s x));have HC:=zH (ad2 s a.spaces sA sn sc w _ h3 zO);rw[hv] at HC ⊢;have c0:=aO hg;have d0:=dw h1;clear h1 h2 h3 hg hv;go_enter Tryz.func130,Tryz.ntmps130;go_wp2_with fail;refine HC.out.mono ?_;rintro e w2 ⟨rfl,ag⟩;go_wp2_with fail;go_ret;exact⟨rfl,ag⟩
theorem aid(a:zZ)(s x:ByteArray)(ba g1 g2:Nat)(nA:Option Addr)(nn nc:Nat)(sA:Option Addr)(sn sc:Nat)(w:World)(h:yH w ba a nA nn nc sA sn sc)(hg:w.heap[g1]?=some (.cells #[.pointer (some ⟨ba,0,none⟩)] 91))(qo:w.heap[g2]?=some (.cells #[.string s] 9)):
 Rt 128 #[.string x,.pointer (some ⟨g1,0,none⟩),.pointer (some ⟨g2,0,none⟩)] w (.bool (ru a.names s x)):=by
 obtain⟨h1,h2,h3,h4,h5⟩:=h;obtain⟨v,hv⟩:=zF (ru a.names s x)
 have hc:∀W,Bw w W->Rt 129 #[.slice nA nn nc,.agg #[.string s,.string x]] W (.bool v):=λW hb=>by
  rw[<-hv];exact J7 s x a.names nA nn nc W _ (h2.below hb) zO
 have HC:=zH hc;rw[hv];have c0:=aO hg;have c1:=aO qo;obtain⟨d0,d1⟩:=dw h1;clear h1 h2 h3 hg qo hv hc;go_enter Tryz.func128,Tryz.ntmps128;go_wp2_with fail;have k0:=Since.cell c0;have k1:=Since.cell c1;have k2:=Since.cell d0;refine yh zK zK ?_
 repeat (quiet_step (first
  | (go_at_call_of 129 (Value.slice nA nn nc);exact Eo (HC.out _ (Since.below _)))))
 refine wpQuiet_nil ?_;intro wq hq;have Xo:=Ap hq;clear hq;go_wp2_with fail;go_ret;exact⟨rfl,Xo⟩
end Go.Proofs.YtgmnnegfndpakaaGreatDoor
