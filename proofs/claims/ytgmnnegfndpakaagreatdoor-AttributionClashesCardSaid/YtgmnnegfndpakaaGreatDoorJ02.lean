import Derived.Test.YtgmnnegfndpakaaGreatDoorH43
set_option maxHeartbeats 20000000
set_option maxRecDepth 100000
namespace Go.Proofs.YtgmnnegfndpakaaGreatDoor
open Go.RowKit
mutual
theorem afz:∀c:aT,Bh c=mnC c
 | .mk k ns nl s ex ar=>by rw[Bh,mnC,afG ex,afG ar,List.append_assoc]
theorem afG:∀l:List aT,Dy l=mnL l
 | []=>by rw[Dy,mnL]
 | c::l=>by rw[Dy,mnL,afz c,afG l]
end
mutual
theorem afH:∀c:aT,Bi c=msC c
 | .mk k ns nl s ex ar=>by rw[Bi,msC,afI ex,afI ar,List.append_assoc]
theorem afI:∀l:List aT,Dz l=msL l
 | []=>by rw[Dz,msL]
 | c::l=>by rw[Dz,msL,afH c,afI l]
end
mutual
theorem aqU:∀c:aT,rU c=true->(∀n∈mnC c,jJ n.1 n.2=true)/\∀s∈msC c,s.size<=200
 | .mk k ns nl s ex ar,h=>by
   rw[rU,z7,z7] at h;obtain⟨⟨h1,h2⟩,h3⟩:=h;obtain⟨_,_,_,g1,g2⟩:=Uh h3;have e1:=af1 ex h1;have e2:=af1 ar h2;refine⟨λn hn=>?_,λt ht=>?_⟩
   ·rw[mnC,z12,z12] at hn
    rcases hn with (hn | hn) | hn
    ·split at hn
     ·rename_i hk;rw[og] at hn;subst hn;exact g1 hk
     simp at hn
    ·exact e1.1 n hn
    exact e2.1 n hn
   rw[msC,z12,z12] at ht
   rcases ht with (ht | ht) | ht
   ·split at ht
    ·rename_i hk;rw[og] at ht;subst ht;have hv:=g1 hk;unfold jJ at hv;simp only[z7,gy] at hv;exact hv.2
    split at ht
    ·rename_i hk;rw[og] at ht;subst ht;exact g2 hk
    simp at ht
   ·exact e1.2 t ht
   exact e2.2 t ht
theorem af1:∀l:List aT,lI l=true->(∀n∈mnL l,jJ n.1 n.2=true)/\∀s∈msL l,s.size<=200
 | [],_=>⟨λn hn=>by rw[mnL] at hn;simp at hn,λs hs=>by rw[msL] at hs;simp at hs⟩
 | c::l,h=>by
   rw[lI,z7] at h;have e1:=aqU c h.1;have e2:=af1 l h.2;refine⟨λn hn=>?_,λs hs=>?_⟩
   ·rw[mnL,z12] at hn;exact hn.elim (e1.1 n) (e2.1 n)
   rw[msL,z12] at hs;exact hs.elim (e1.2 s) (e2.2 s)
end
theorem adT(k:Int):fD k=true↔k=1\/k=2:=by
 unfold fD;rw[Bool.or_eq_true,gy,gy]
theorem ajR{n:Int}{top:Bool}{k mn mx el:Int}{c:aT}{pr:Int}{args:List aJ}(hk:fD k=true)(h:bT n top (.mk k mn mx el c pr args)=true):bT n false (.mk k mn mx el c pr args)=true/\args=[]:=by
 rw[bT] at h ⊢
 rcases (adT k).1 hk with rfl | rfl
 ·rw[if_pos rfl] at h ⊢;refine⟨h,?_⟩;simp only[z7,gy] at h;exact List.eq_nil_of_length_eq_zero h.2
 rw[if_neg zD,if_pos rfl] at h ⊢;refine⟨h,?_⟩;simp only[z7,gy] at h;exact List.eq_nil_of_length_eq_zero h.1.1.1.2
theorem af2{n:Int}{top:Bool}{k mn mx el:Int}{c:aT}{pr:Int}{args:List aJ}(hk:¬fD k=true)(h:bT n top (.mk k mn mx el c pr args)=true):jZ n args=true:=by
 rw[adT] at hk;rw[bT,if_neg (λe=>hk (.inl e)),if_neg (λe=>hk (.inr e))] at h
 split at h
 ·rw[z7] at h;exact h.2
 split at h
 ·rw[z7] at h;exact h.2
 split at h
 ·rw[z7,z7] at h;exact h.1.2
 cases h
mutual
theorem afK(n:Int):∀(p:aJ) (top:Bool) (num:Nat),bT n top p=true->∀l∈aaj p num,(fD l.2.kind=true/\l.2.args=[]/\bT n false l.2=true)/\(num<=l.1/\l.1<num+dh p)/\(l.2.kind=2->(∀x∈Bh l.2.cls,x∈DC p)/\∀s∈Bi l.2.cls,s∈DF p)
 | .mk k mn mx el c pr args,top,num,hf,l,hl=>by
   rw[aaj] at hl;rw[dh,DC,DF];by_cases hk:fD k=true
   ·rw[if_pos hk,og] at hl;subst hl;obtain⟨h1,h2⟩:=ajR hk hf;refine⟨⟨hk,h2,h1⟩,⟨zR _,by show num<_;omega⟩,λh3=>?_⟩;have h3':k=2:=h3;rw[if_pos h3',if_pos h3'];exact⟨λx hx=>z12.2 (.inl hx),λs hs=>z12.2 (.inl hs)⟩
   rw[if_neg hk] at hl;obtain⟨h1,h2,h3⟩:=aeh n args (num+1) (af2 hk hf) l hl;exact⟨h1,⟨zO,zO⟩,λh4=>⟨λx hx=>z12.2 (.inr ((h3 h4).1 x hx)),λs hs=>z12.2 (.inr ((h3 h4).2 s hs))⟩⟩
theorem aeh(n:Int):∀(ps:List aJ) (num:Nat),jZ n ps=true->∀l∈aaH ps num,(fD l.2.kind=true/\l.2.args=[]/\bT n false l.2=true)/\(num<=l.1/\l.1<num+dZ ps)/\(l.2.kind=2->(∀x∈Bh l.2.cls,x∈DD ps)/\∀s∈Bi l.2.cls,s∈DI ps)
 | [],num,_,l,hl=>by rw[aaH] at hl;simp at hl
 | p::ps,num,hf,l,hl=>by
   rw[jZ,z7,z7] at hf;rw[aaH,z12] at hl;rw[dZ,DD,DI]
   rcases hl with hl | hl
   ·obtain⟨h1,h2,h3⟩:=afK n p false num hf.1.2 l hl;exact⟨h1,⟨zO,zO⟩,λh4=>⟨λx hx=>z12.2 (.inl ((h3 h4).1 x hx)),λs hs=>z12.2 (.inl ((h3 h4).2 s hs))⟩⟩
   obtain⟨h1,h2,h3⟩:=aeh n ps (num+dh p) hf.2 l hl;exact⟨h1,⟨zO,zO⟩,λh4=>⟨λx hx=>z12.2 (.inr ((h3 h4).1 x hx)),λs hs=>z12.2 (.inr ((h3 h4).2 s hs))⟩⟩
end
mutual
theorem ajJ(n:Int):∀(p:aJ) (top:Bool) (num:Nat),bT n top p=true->((aaj p num).map (·.1)).Pairwise (· < ·)
 | .mk k mn mx el c pr args,top,num,hf=>by
   rw[aaj];by_cases hk:fD k=true
   ·rw[if_pos hk];simp
   rw[if_neg hk];exact agp n args (num+1) (af2 hk hf)
theorem agp(n:Int):∀(ps:List aJ) (num:Nat),jZ n ps=true->((aaH ps num).map (·.1)).Pairwise (· < ·)
 | [],num,_=>by rw[aaH];simp
 | p::ps,num,hf=>by
   rw[jZ,z7,z7] at hf;rw[aaH,List.map_append,List.pairwise_append];refine⟨ajJ n p false num hf.1.2,agp n ps _ hf.2,λa ha b hb=>?_⟩;obtain⟨l,hl,rfl⟩:=List.mem_map.1 ha;obtain⟨l',zS,rfl⟩:=List.mem_map.1 hb;have h1:=(afK n p false num hf.1.2 l hl).2.1;have h2:=(aeh n ps _ hf.2 l' zS).2.1;omega
end
theorem af4{elems:List (List Nm)}{p:aJ}(h:kN elems p=0){s:Nat}{x:Stp}(hx:x∈gK (eU elems p) s):(x.num,x.leaf)∈aaj p 0:=by
 by_cases hk:p.kind=5
 ·obtain⟨-,-,dD,-,ha⟩:=af7 h hk;have hb:eU elems p=⟨elems,[],[],[],false,p.args⟩:=(by unfold eU;rw[if_pos hk]);rw[hb] at hx;unfold gK at hx
  have he:p.args.isEmpty=false:=by cases hq:p.args with
   | nil=>exact absurd hq dD
   | cons a l=>rfl
  dsimp only at hx;rw[he] at hx;obtain⟨j,h1,h2⟩:=ajF _ _ _ _ _ x hx;obtain⟨k,mn,mx,el,c,pr,args⟩:=p;have fM:k=5:=hk;subst fM;rw[aaj,if_neg zD,h2]
  have uw:∀q∈args,fD q.kind=true/\q.args=[]:=λq hq=>by
   obtain⟨a1,-,-,-,a5⟩:=ha q hq;obtain⟨k',nI,mx',uo,c',pr',args'⟩:=q;exact⟨a1,(ajR a1 a5).2⟩
  have:=af0 args (0+1) uw j x.leaf h1;rw[show 0+j+1=0+1+j by omega];exact this
 have hb:eU elems p=⟨elems,(fV p 0 []).1,(fV p 0 []).2.first,(fV p 0 []).2.last,(fV p 0 []).2.empty,[]⟩:=(by unfold eU;rw[if_neg hk]);obtain⟨i,q,-,hq,rfl⟩:=(acy (m:=eU elems p) (by rw[hb])).1 hx;rw[hb] at hq;have h1:=ajE (ala p 0) p.mn p.mx (dC p) [] (q.num,q.leaf) (List.mem_map.2 ⟨q,SK hq,rfl⟩);exact h1.elim (λh2=>by simp[ab8] at h2) id
def ado(a:zZ)(x y:Nm):Prop:=(∀n∈a.names,(x=n↔y=n))/\(∀s∈a.spaces,(x.1=s↔y.1=s))
theorem ado.refl(a:zZ)(x:Nm):ado a x x:=⟨λ_ _=>Iff.rfl,λ_ _=>Iff.rfl⟩
theorem ado.symm{a:zZ}{x y:Nm}(h:ado a x y):ado a y x:=⟨λn hn=>(h.1 n hn).symm,λs hs=>(h.2 s hs).symm⟩
mutual
theorem aAf:∀(p:aJ) (n:Nm),n∈DC p->n.1∈DF p
 | .mk k mn mx el c pr args,n,h=>by
   rw[DC,z12] at h;rw[DF,z12]
   rcases h with h | h
   ·split at h
    ·rename_i hk;rw[if_pos hk,afH];rw[afz] at h;exact .inl (azO c n h)
    simp at h
   exact .inr (af8 args n h)
theorem af8:∀(l:List aJ) (n:Nm),n∈DD l->n.1∈DI l
 | [],n,h=>by rw[DD] at h;simp at h
 | p::l,n,h=>by
   rw[DD,z12] at h;rw[DI,z12];exact h.imp (aAf p n) (af8 l n)
end
