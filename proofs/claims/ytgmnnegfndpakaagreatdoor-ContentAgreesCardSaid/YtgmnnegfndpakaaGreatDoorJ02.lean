import Derived.Test.YtgmnnegfndpakaaGreatDoorH43
import Derived.Test.YtgmnnegfndpakaaGreatDoorH35
set_option maxHeartbeats 20000000
set_option maxRecDepth 100000
namespace Go.Proofs.YtgmnnegfndpakaaGreatDoor
open Go Go.RowKit
theorem auM(n:Nm):oZ n=!jJ n.1 n.2:=by
 unfold oZ jF nmC
 have h1:ni 10 (.mk 1 n.1 n.2 ⟨#[]⟩ [] [])=1:=by
  rw[(QB _ 10).1 (by rw[O4,LY];decide) (by rw[kC,iZ];decide),kC,iZ]
 have h2:rU (.mk 1 n.1 n.2 ⟨#[]⟩ [] [])=jJ n.1 n.2:=by
  rw[rU,lI];unfold uI;cases jJ n.1 n.2<;>simp
 rw[h1,h2];cases jJ n.1 n.2<;>simp
mutual
theorem afz:∀c:aT,Bh c=mnC c
 | .mk k ns nl s ex ar=>by rw[Bh,mnC,afG ex,afG ar,List.append_assoc]
theorem afG:∀l:List aT,Dy l=mnL l
 | []=>by rw[Dy,mnL]
 | c::l=>by rw[Dy,mnL,afz c,afG l]
end
mutual
theorem afH:∀c:aT,Bi c=msC c
 | .mk k ns nl s ex ar=>by rw[Bi,msC,afI ex,afI ar,List.append_assoc]
theorem afI:∀l:List aT,Dz l=msL l
 | []=>by rw[Dz,msL]
 | c::l=>by rw[Dz,msL,afH c,afI l]
end
mutual
theorem aqU:∀c:aT,rU c=true->(∀n∈mnC c,jJ n.1 n.2=true)/\∀s∈msC c,s.size<=200
 | .mk k ns nl s ex ar,h=>by
   rw[rU,z7,z7] at h;obtain⟨⟨h1,h2⟩,h3⟩:=h;obtain⟨_,_,_,g1,g2⟩:=Uh h3;have e1:=af1 ex h1;have e2:=af1 ar h2;refine⟨λn hn=>?_,λt ht=>?_⟩
   ·rw[mnC,z12,z12] at hn
    rcases hn with (hn | hn) | hn
    ·split at hn
     ·rename_i hk;rw[og] at hn;subst hn;exact g1 hk
     simp at hn
    ·exact e1.1 n hn
    exact e2.1 n hn
   rw[msC,z12,z12] at ht
   rcases ht with (ht | ht) | ht
   ·split at ht
    ·rename_i hk;rw[og] at ht;subst ht;have hv:=g1 hk;unfold jJ at hv;simp only[z7,z18] at hv;exact hv.2
    split at ht
    ·rename_i hk;rw[og] at ht;subst ht;exact g2 hk
    simp at ht
   ·exact e1.2 t ht
   exact e2.2 t ht
theorem af1:∀l:List aT,lI l=true->(∀n∈mnL l,jJ n.1 n.2=true)/\∀s∈msL l,s.size<=200
 | [],_=>⟨λn hn=>by rw[mnL] at hn;simp at hn,λs hs=>by rw[msL] at hs;simp at hs⟩
 | c::l,h=>by
   rw[lI,z7] at h;have e1:=aqU c h.1;have e2:=af1 l h.2;refine⟨λn hn=>?_,λs hs=>?_⟩
   ·rw[mnL,z12] at hn;exact hn.elim (e1.1 n) (e2.1 n)
   rw[msL,z12] at hs;exact hs.elim (e1.2 s) (e2.2 s)
end
theorem adT(k:Int):fD k=true↔k=1\/k=2:=by
 unfold fD;rw[Bool.or_eq_true,z18,z18]
theorem ajR{n:Int}{top:Bool}{k mn mx el:Int}{c:aT}{pr:Int}{args:List aJ}(hk:fD k=true)(h:bT n top (.mk k mn mx el c pr args)=true):bT n false (.mk k mn mx el c pr args)=true/\args=[]:=by
 rw[bT] at h ⊢
 rcases (adT k).1 hk with rfl | rfl
 ·rw[if_pos rfl] at h ⊢;refine⟨h,?_⟩;simp only[z7,z18] at h;exact List.eq_nil_of_length_eq_zero h.2
 rw[if_neg zD,if_pos rfl] at h ⊢;refine⟨h,?_⟩;simp only[z7,z18] at h;exact List.eq_nil_of_length_eq_zero h.1.1.1.2
theorem af2{n:Int}{top:Bool}{k mn mx el:Int}{c:aT}{pr:Int}{args:List aJ}(hk:¬fD k=true)(h:bT n top (.mk k mn mx el c pr args)=true):jZ n args=true:=by
 rw[adT] at hk;rw[bT,if_neg (λe=>hk (.inl e)),if_neg (λe=>hk (.inr e))] at h
 split at h
 ·rw[z7] at h;exact h.2
 split at h
 ·rw[z7] at h;exact h.2
 split at h
 ·rw[z7,z7] at h;exact h.1.2
 cases h
mutual
theorem afK(n:Int):∀(p:aJ) (top:Bool) (num:Nat),bT n top p=true->∀l∈aaj p num,(fD l.2.kind=true/\l.2.args=[]/\bT n false l.2=true)/\(num<=l.1/\l.1<num+dh p)/\(l.2.kind=2->(∀x∈Bh l.2.cls,x∈DC p)/\∀s∈Bi l.2.cls,s∈DF p)
 | .mk k mn mx el c pr args,top,num,hf,l,hl=>by
   rw[aaj] at hl;rw[dh,DC,DF];by_cases hk:fD k=true
   ·rw[if_pos hk,og] at hl;subst hl;obtain⟨h1,h2⟩:=ajR hk hf;refine⟨⟨hk,h2,h1⟩,⟨zR _,by show num<_;omega⟩,λh3=>?_⟩;have h3':k=2:=h3;rw[if_pos h3',if_pos h3'];exact⟨λx hx=>z12.2 (.inl hx),λs hs=>z12.2 (.inl hs)⟩
   rw[if_neg hk] at hl;obtain⟨h1,h2,h3⟩:=aeh n args (num+1) (af2 hk hf) l hl;exact⟨h1,⟨zO,zO⟩,λh4=>⟨λx hx=>z12.2 (.inr ((h3 h4).1 x hx)),λs hs=>z12.2 (.inr ((h3 h4).2 s hs))⟩⟩
theorem aeh(n:Int):∀(ps:List aJ) (num:Nat),jZ n ps=true->∀l∈aaH ps num,(fD l.2.kind=true/\l.2.args=[]/\bT n false l.2=true)/\(num<=l.1/\l.1<num+dZ ps)/\(l.2.kind=2->(∀x∈Bh l.2.cls,x∈DD ps)/\∀s∈Bi l.2.cls,s∈DI ps)
 | [],num,_,l,hl=>by rw[aaH] at hl;simp at hl
 | p::ps,num,hf,l,hl=>by
   rw[jZ,z7,z7] at hf;rw[aaH,z12] at hl;rw[dZ,DD,DI]
   rcases hl with hl | hl
   ·obtain⟨h1,h2,h3⟩:=afK n p false num hf.1.2 l hl;exact⟨h1,⟨zO,zO⟩,λh4=>⟨λx hx=>z12.2 (.inl ((h3 h4).1 x hx)),λs hs=>z12.2 (.inl ((h3 h4).2 s hs))⟩⟩
   obtain⟨h1,h2,h3⟩:=aeh n ps (num+dh p) hf.2 l hl;exact⟨h1,⟨zO,zO⟩,λh4=>⟨λx hx=>z12.2 (.inr ((h3 h4).1 x hx)),λs hs=>z12.2 (.inr ((h3 h4).2 s hs))⟩⟩
end
mutual
theorem ajJ(n:Int):∀(p:aJ) (top:Bool) (num:Nat),bT n top p=true->((aaj p num).map (·.1)).Pairwise (· < ·)
 | .mk k mn mx el c pr args,top,num,hf=>by
   rw[aaj];by_cases hk:fD k=true
   ·rw[if_pos hk];simp
   rw[if_neg hk];exact agp n args (num+1) (af2 hk hf)
theorem agp(n:Int):∀(ps:List aJ) (num:Nat),jZ n ps=true->((aaH ps num).map (·.1)).Pairwise (· < ·)
 | [],num,_=>by rw[aaH];simp
 | p::ps,num,hf=>by
   rw[jZ,z7,z7] at hf;rw[aaH,List.map_append,List.pairwise_append];refine⟨ajJ n p false num hf.1.2,agp n ps _ hf.2,λa ha b hb=>?_⟩;obtain⟨l,hl,rfl⟩:=List.mem_map.1 ha;obtain⟨l',zS,rfl⟩:=List.mem_map.1 hb;have h1:=(afK n p false num hf.1.2 l hl).2.1;have h2:=(aeh n ps _ hf.2 l' zS).2.1;omega
end
theorem af4{elems:List (List Nm)}{p:aJ}(h:kN elems p=0){s:Nat}{x:Stp}(hx:x∈gK (eU elems p) s):(x.num,x.leaf)∈aaj p 0:=by
 by_cases hk:p.kind=5
 ·obtain⟨-,-,dD,-,ha⟩:=af7 h hk;have hb:eU elems p=⟨elems,[],[],[],false,p.args⟩:=(by unfold eU;rw[if_pos hk]);rw[hb] at hx;unfold gK at hx
  have he:p.args.isEmpty=false:=by cases hq:p.args with
   | nil=>exact absurd hq dD
   | cons a l=>rfl
  dsimp only at hx;rw[he] at hx;obtain⟨j,h1,h2⟩:=ajF _ _ _ _ _ x hx;obtain⟨k,mn,mx,el,c,pr,args⟩:=p;have fM:k=5:=hk;subst fM;rw[aaj,if_neg zD,h2]
  have uw:∀q∈args,fD q.kind=true/\q.args=[]:=λq hq=>by
   obtain⟨a1,-,-,-,a5⟩:=ha q hq;obtain⟨k',nI,mx',uo,c',pr',args'⟩:=q;exact⟨a1,(ajR a1 a5).2⟩
  have:=af0 args (0+1) uw j x.leaf h1;rw[show 0+j+1=0+1+j by omega];exact this
 have hb:eU elems p=⟨elems,(fV p 0 []).1,(fV p 0 []).2.first,(fV p 0 []).2.last,(fV p 0 []).2.empty,[]⟩:=(by unfold eU;rw[if_neg hk]);obtain⟨i,q,-,hq,rfl⟩:=(acy (m:=eU elems p) (by rw[hb])).1 hx;rw[hb] at hq;have h1:=ajE (ala p 0) p.mn p.mx (dC p) [] (q.num,q.leaf) (List.mem_map.2 ⟨q,z13 hq,rfl⟩);exact h1.elim (λh2=>by simp[ab8] at h2) id
def ado(a:zZ)(x y:Nm):Prop:=(∀n∈a.names,(x=n↔y=n))/\(∀s∈a.spaces,(x.1=s↔y.1=s))
theorem ado.refl(a:zZ)(x:Nm):ado a x x:=⟨λ_ _=>Iff.rfl,λ_ _=>Iff.rfl⟩
theorem ado.symm{a:zZ}{x y:Nm}(h:ado a x y):ado a y x:=⟨λn hn=>(h.1 n hn).symm,λs hs=>(h.2 s hs).symm⟩
theorem afL{elems:List (List Nm)}{ps:List aJ}{x:Nm}:x∈(mZ elems ps).names↔x∈elems.flatten\/x∈DD ps:=by
 unfold mZ adC;rw[(anX _ [] List.Pairwise.nil).2,z12];simp
theorem agK{elems:List (List Nm)}{ps:List aJ}{x:ByteArray}:x∈(mZ elems ps).spaces↔x∈elems.flatten.map (·.1)\/x∈DI ps:=by
 unfold mZ adD;rw[(anY _ [] List.Pairwise.nil).2,z12];simp
theorem aAd(elems:List (List Nm))(ps:List aJ):(mZ elems ps).names.Pairwise λx y=>jg x y=true:=(anX _ [] List.Pairwise.nil).1
theorem aAe(elems:List (List Nm))(ps:List aJ):(mZ elems ps).spaces.Pairwise λx y=>kQ x y=true:=(anY _ [] List.Pairwise.nil).1
mutual
theorem aAf:∀(p:aJ) (n:Nm),n∈DC p->n.1∈DF p
 | .mk k mn mx el c pr args,n,h=>by
   rw[DC,z12] at h;rw[DF,z12]
   rcases h with h | h
   ·split at h
    ·rename_i hk;rw[if_pos hk,afH];rw[afz] at h;exact .inl (azO c n h)
    simp at h
   exact .inr (af8 args n h)
theorem af8:∀(l:List aJ) (n:Nm),n∈DD l->n.1∈DI l
 | [],n,h=>by rw[DD] at h;simp at h
 | p::l,n,h=>by
   rw[DD,z12] at h;rw[DI,z12];exact h.imp (aAf p n) (af8 l n)
end
theorem aJq{elems:List (List Nm)}{ps:List aJ}{n:Nm}(h:n∈(mZ elems ps).names):n.1∈(mZ elems ps).spaces:=by
 rw[afL] at h;rw[agK]
 rcases h with h | h
 ·exact .inl (List.mem_map.2 ⟨n,h,rfl⟩)
 exact .inr (af8 ps n h)
theorem aAg{elems:List (List Nm)}{ps:List aJ}{p:aJ}(hp:p∈ps){l:Nat×aJ}{num:Nat}{n:Int}{top:Bool}(hf:bT n top p=true)(hl:l∈aaj p num){x y:Nm}(hv:jJ x.1 x.2=jJ y.1 y.2)(hs:ado (mZ elems ps) x y):Gf elems l.2 x=Gf elems l.2 y:=by
 obtain⟨h1,-,h3⟩:=afK n p top num hf l hl
 rcases (adT _).1 h1.1 with hk | hk
 ·unfold Gf;rw[if_pos hk,if_pos hk,Bool.eq_iff_iff,List.any_eq_true,List.any_eq_true]
  have key:∀z∈elemAt elems l.2.el,(x=z↔y=z):=λz hz=>hs.1 z (afL.2 (.inl (by
   unfold elemAt at hz
   cases he:elems[l.2.el.toNat]? with
   | none=>rw[he] at hz;simp at hz
   | some q=>
     rw[he] at hz
     exact List.mem_flatten.2 ⟨q,z13 he,hz⟩)))
  constructor
  ·rintro⟨z,hz,he⟩;exact⟨z,hz,(jM _ _).2 ((key z hz).1 ((jM _ _).1 he))⟩
  rintro⟨z,hz,he⟩;exact⟨z,hz,(jM _ _).2 ((key z hz).2 ((jM _ _).1 he))⟩
 obtain⟨h4,h5⟩:=h3 hk
 have jb:∀x∈DC p,x∈DD ps:=λx hx=>by
  clear hs hf hl h3 h4 h5
  induction ps with
  | nil=>simp at hp
  | cons q l ih=>
    rw[DD,z12]
    rcases z15.1 hp with rfl | hp
    ·exact .inl hx
    exact .inr (ih hp)
 have aJw:∀x∈DF p,x∈DI ps:=λx hx=>by
  clear hs hf hl h3 h4 h5 jb
  induction ps with
  | nil=>simp at hp
  | cons q l ih=>
    rw[DI,z12]
    rcases z15.1 hp with rfl | hp
    ·exact .inl hx
    exact .inr (ih hp)
 rw[agD zO,agD zO,hv]
 congr 1
 refine aeR _ (λm hm=>hs.1 m (afL.2 (.inr (jb m (h4 m (by rw[afz];exact hm)))))) (λs Af=>hs.2 s (agK.2 (.inr (aJw s (h5 s (by rw[afH];exact Af))))))
theorem af9{α:Type}{eq:α->α->Bool}{x:α}:∀{l:List α} {i k:Nat},aaP eq x l i=some k->∃y j,k=i+j/\l[j]?=some y/\eq y x=true
 | [],i,k,h=>by rw[aaP] at h;cases h
 | y::l,i,k,h=>by
   rw[aaP] at h
   split at h
   ·rename_i he;obtain rfl:=zI h;exact⟨y,0,rfl,rfl,he⟩
   obtain⟨z,j,h1,h2,h3⟩:=af9 h;exact⟨z,j+1,zO,h2,h3⟩
theorem aga{α:Type}{eq:α->α->Bool}{x:α}:∀{l:List α} {i:Nat},aaP eq x l i=none->∀y∈l,eq y x=false
 | [],i,_,y,hy=>by simp at hy
 | z::l,i,h,y,hy=>by
   rw[aaP] at h
   split at h
   ·cases h
   rename_i he
   rcases z15.1 hy with rfl | hy
   ·simpa using he
   exact aga h y hy
theorem agM{α:Type}{lt:α->α->Bool}:∀{l:List α},(l.Pairwise λx y=>lt x y=true)->acG lt l=true
 | [],_=>rfl
 | [_],_=>rfl
 | x::y::l,h=>by
   rw[List.pairwise_cons] at h;rw[acG,h.1 y zP,agM h.2];rfl
structure aEB (a:zZ):Prop where
 aMH:a.names.Pairwise λx y=>jg x y=true
 aMI:a.spaces.Pairwise λx y=>kQ x y=true
 sp:∀n∈a.names,n.1∈a.spaces
theorem aPL(elems:List (List Nm))(ps:List aJ):aEB (mZ elems ps):=⟨aAd _ _,aAe _ _,λ_ h=>aJq h⟩
theorem aMu{a:zZ}(h:aEB a){n:Nm}(hb:oZ n=false):∃i:Nat,adu a.names a.spaces n=((i:Int),0)/\i<a.size/\ado a (iJ a i) n:=by
 unfold adu;rw[hb,agM h.aMH,agM h.aMI,if_neg zP]
 cases h1:aaP eqN n a.names 0 with
 | some k=>
   obtain⟨y,j,rfl,h2,h3⟩:=af9 h1;obtain rfl:=(jM _ _).1 h3;rw[Nat.zero_add];refine⟨j,rfl,?_,?_⟩
   ·have:=(z4.1 h2).1;unfold zZ.size;omega
   rw[anQ h2];exact ado.refl _ _
 | none=>
   have hn:n ∉ a.names:=λhm=>by
    have:=aga h1 n hm;rw[(jM n n).2 rfl] at this;cases this
   cases h4:aaP eqS n.1 a.spaces 0 with
   | some k=>
     obtain⟨y,j,rfl,h2,h3⟩:=af9 h4;obtain rfl:=iV.1 h3;rw[Nat.zero_add];refine⟨a.names.length+j,by show ((a.names.length:Int)+(j:Int),(0:Int))=_;simp,?_,?_⟩
     ·have:=(z4.1 h2).1;unfold zZ.size;omega
     rw[anR h2];have hP:=UX (afp a.names n.1);refine⟨λm hm=>⟨λe=>?_,λe=>absurd (e ▸ hm) hn⟩,λs _=>Iff.rfl⟩;have h5:=hP.1;rw[(Nr _ _ _).2 (e ▸ hm)] at h5;cases h5
   | none=>
     have hs:n.1 ∉ a.spaces:=λhm=>by
      have:=aga h4 n.1 hm;rw[iV.2 rfl] at this;cases this
     refine⟨a.names.length+a.spaces.length,by show ((a.names.length:Int)+(a.spaces.length:Int),(0:Int))=_;simp,by unfold zZ.size;omega,?_⟩;rw[anS (zR _)];have hP:=(UX (afq a.spaces)).1;obtain⟨I,hI⟩:=zF (AZ (λk=>a.spaces.any λz=>eqS (dL EN k) z) a.spaces.length);rw[hI] at hP;rw[hI]
     have hni:dL EN I ∉ a.spaces:=λhm=>by
      rw[List.any_eq_true.2 ⟨_,hm,iV.2 rfl⟩] at hP;cases hP
     refine⟨λm hm=>⟨λe=>?_,λe=>absurd (e ▸ hm) hn⟩,λs Af=>⟨λe=>absurd (show dL EN I∈a.spaces from (show dL EN I=s from e) ▸ Af) hni,λe=>absurd (e ▸ Af) hs⟩⟩;exact absurd (by have:=h.sp m hm;rw[<-e] at this;exact this) hni
theorem alq:∀(k n:Nat),n<10 ^ k->(pG n).length<=k
 | 0,n,h=>by
   have:n=0:=(by simpa using h);subst this;simp[pG]
 | k+1,n,h=>by
   by_cases h0:n=0
   ·subst h0;simp[pG]
   rw[Ho zO,z5];have:=alq k (n / 10) (by rw[Nat.pow_succ] at h;omega);simp;omega
theorem alr{a:ByteArray}{n:Nat}(h:n<100000):(dL a n).size<=a.size+5/\a.size<=(dL a n).size:=by
 have:=alq 5 n (by simpa using h);unfold dL;rw[ByteArray.size_append]
 have e:(⟨(pG n).toArray⟩:ByteArray).size=(pG n).length:=by
  show ((pG n).toArray).size=_;simp
 rw[e];omega
structure aJr (a:zZ):Prop where
 names:∀n∈a.names,jJ n.1 n.2=true
 spaces:∀s∈a.spaces,s.size<=200
 n1:a.names.length<100000
 n2:a.spaces.length<100000
theorem aJt{a:zZ}(h:aJr a)(x:Nat):jJ (iJ a x).1 (iJ a x).2=true:=by
 unfold iJ
 cases h1:a.names[x]? with
 | some n=>exact h.names n (z13 h1)
 | none=>
   dsimp only
   cases h2:a.spaces[x - a.names.length]? with
   | some s=>
     have hs:=h.spaces s (z13 h2);have hP:=(UX (afp a.names s)).2.2;have e:(λk=>a.names.any (eqN (s,dL xB k)))=λk=>ru a.names s (dL xB k):=(by funext k;exact aCk _ _ _);show jJ s (dL xB (AZ (λk=>a.names.any (eqN (s,dL xB k))) a.names.length))=true;rw[e];have hz:=alr (a:=xB) (n:=AZ (λk=>ru a.names s (dL xB k)) a.names.length) (Nat.lt_of_le_of_lt hP h.n1);have hx:xB.size=1:=rfl;unfold jJ;simp only[z7,z18];omega
   | none=>
     have hP:=(UX (afq a.spaces)).2.2;have hz:=alr (a:=EN) (n:=AZ (λk=>a.spaces.any λz=>eqS (dL EN k) z) a.spaces.length) (Nat.lt_of_le_of_lt hP h.n2);have hx:EN.size=5:=rfl;have hy:xB.size=1:=rfl;show jJ (dL EN (AZ (λk=>a.spaces.any λz=>eqS (dL EN k) z) a.spaces.length)) xB=true;unfold jJ;simp only[z7,z18];omega
mutual
theorem alv(n:Int):∀(p:aJ) (top:Bool),bT n top p=true->(∀x∈DC p,jJ x.1 x.2=true)/\∀s∈DF p,s.size<=200
 | .mk k mn mx el c pr args,top,hf=>by
   rw[DC,DF];by_cases hk:fD k=true
   ·obtain⟨-,ha⟩:=ajR hk hf;subst ha;rw[DD,DI,List.append_nil,List.append_nil];by_cases h2:k=2
    ·subst h2;rw[if_pos rfl,if_pos rfl,afz,afH];rw[bT,if_neg zD,if_pos rfl] at hf;simp only[z7,z18] at hf;exact aqU c (QD hf.2).2
    rw[if_neg h2,if_neg h2];simp
   have h2:k≠2:=λe=>hk ((adT k).2 (.inr e));rw[if_neg h2,if_neg h2,List.nil_append,List.nil_append];exact ajK n args (af2 hk hf)
theorem ajK(n:Int):∀ps:List aJ,jZ n ps=true->(∀x∈DD ps,jJ x.1 x.2=true)/\∀s∈DI ps,s.size<=200
 | [],_=>by rw[DD,DI];simp
 | p::ps,hf=>by
   rw[jZ,z7,z7] at hf;have e1:=alv n p false hf.1.2;have e2:=ajK n ps hf.2;rw[DD,DI];exact⟨λx hx=>(z12.1 hx).elim (e1.1 x) (e2.1 x),λx hx=>(z12.1 hx).elim (e1.2 x) (e2.2 x)⟩
end
theorem agq{elems:List (List Nm)}(h:elems.any badL=false):∀n∈elems.flatten,jJ n.1 n.2=true:=λn hn=>by
 obtain⟨l,hl,hn⟩:=List.mem_flatten.1 hn
 have h1:badL l=false:=by
  cases hb:badL l with
  | false=>rfl
  | true=>rw[List.any_eq_true.2 ⟨l,hl,hb⟩] at h;cases h
 unfold badL at h1;rw[Bool.or_eq_false_iff] at h1
 cases hv:jJ n.1 n.2 with
 | true=>rfl
 | false=>
   have:l.any oZ=true:=List.any_eq_true.2 ⟨n,hn,by rw[auM,hv];rfl⟩;rw[this] at h1;cases h1.2
theorem aMw{elems:List (List Nm)}{ps:List aJ}(h:∀p∈ps,kN elems p=0)(he:elems.any badL=false)(hn:(mZ elems ps).names.length<100000)(hs:(mZ elems ps).spaces.length<100000):aJr (mZ elems ps):=by
 have hp:∀qs:List aJ,(∀p∈qs,kN elems p=0)->(∀x∈DD qs,jJ x.1 x.2=true)/\∀s∈DI qs,s.size<=200:=λqs=>by
  induction qs with
  | nil=>intro _;rw[DD,DI];simp
  | cons q qs ih=>
    intro hq;have e1:=alv _ q true (J5 (hq q zP)).2.2.2.2.1;have e2:=ih λp hp=>hq p (by simp[hp]);rw[DD,DI];exact⟨λx hx=>(z12.1 hx).elim (e1.1 x) (e2.1 x),λx hx=>(z12.1 hx).elim (e1.2 x) (e2.2 x)⟩
 have hv:=hp ps h;refine⟨λn hm=>?_,λs hm=>?_,hn,hs⟩
 ·rw[afL] at hm;exact hm.elim (agq he n) (hv.1 n)
 rw[agK] at hm
 rcases hm with hm | hm
 ·obtain⟨n,h1,rfl⟩:=List.mem_map.1 hm;have:=agq he n h1;unfold jJ at this;simp only[z7,z18] at this;exact this.2
 exact hv.2 s hm
theorem aMJ{elems:List (List Nm)}{ps:List aJ}{p:aJ}(h:kN elems p=0)(hp:p∈ps){x y:Nm}(hv:jJ x.1 x.2=jJ y.1 y.2)(hs:ado (mZ elems ps) x y)(set:List Nat):lZ (eU elems p) set x=lZ (eU elems p) set y:=by
 have he:(eU elems p).elems=elems:=(by unfold eU;split<;>rfl);unfold lZ
 congr 2
 funext s;unfold IJ;rw[he]
 congr 1
 refine List.filter_congr λz hz=>?_;exact aAg hp (J5 h).2.2.2.2.1 (af4 h hz) hv hs
def aeu(mark:List Nat->Bool)(i:Nat)(s:List Nat):Bool:=decide (i=0)||mark s
def acs(mark:List Nat->Bool):List (List Nat)->Nat->Nat->Nat
 | [],_,_=>0
 | _,_,0=>0
 | s::l,i,k+1=>(if aeu mark i s then 1 else 0)+acs mark l (i+1) k
theorem ajo(mark:List Nat->Bool)(l:List (List Nat))(i:Nat):acs mark l i 0=0:=by cases l<;>rfl
theorem aal{mark:List Nat->Bool}{i:Nat}{s:List Nat}:aeu mark i s=true↔i=0\/mark s=true:=by
 unfold aeu;rw[Bool.or_eq_true,z18]
theorem alM{mark:List Nat->Bool}:∀{l:List (List Nat)} {i:Nat} {n:Int} {k:Nat} {s:List Nat},l[k]?=some s->(wR mark l i n)[k]?=some (if aeu mark (i+k) s then n+(acs mark l i k:Nat) else -1)
 | [],_,_,_,_,h=>by simp at h
 | t::l,i,n,k,s,h=>by
   rw[wR]
   cases k with
   | zero=>
     obtain rfl:t=s:=(by simpa using h);rw[Nat.add_zero];by_cases hk:i=0\/mark t=true
     ·rw[if_pos hk,show i+0=i from rfl,if_pos (aal.2 hk),ajo];simp
     rw[if_neg hk,show i+0=i from rfl,if_neg (λe=>hk (aal.1 e))];simp
   | succ k=>
     have h':l[k]?=some s:=(by simpa using h);rw[acs,show i+(k+1)=i+1+k by omega];by_cases hk:i=0\/mark t=true
     ·rw[if_pos hk,if_pos (aal.2 hk),List.getElem?_cons_succ,alM h']
      congr 1
      split
      ·push_cast;omega
      rfl
     rw[if_neg hk,if_neg (λe=>hk (aal.1 e)),List.getElem?_cons_succ,alM h',Nat.zero_add]
theorem ajY{mark fin:List Nat->Bool}:∀{l:List (List Nat)} {i k:Nat} {s:List Nat},l[k]?=some s->aeu mark (i+k) s=true->(A7 mark fin l i)[acs mark l i k]?=some (fin s)
 | [],_,_,_,h,_=>by simp at h
 | t::l,i,k,s,h,hk=>by
   rw[A7]
   cases k with
   | zero=>
     obtain rfl:t=s:=(by simpa using h);rw[Nat.add_zero] at hk;rw[if_pos (aal.1 hk),ajo];rfl
   | succ k=>
     have h':l[k]?=some s:=(by simpa using h);have fM:aeu mark (i+1+k) s=true:=(by rw[show i+1+k=i+(k+1) by omega];exact hk);rw[acs];by_cases ht:i=0\/mark t=true
     ·rw[if_pos ht,if_pos (aal.2 ht),Nat.add_comm 1,List.getElem?_cons_succ];exact ajY h' fM
     rw[if_neg ht,if_neg (λe=>ht (aal.1 e)),Nat.zero_add];exact ajY h' fM
theorem aj3{mark:List Nat->Bool}{nums:List Int}:∀{l:List (List Nat)} {rows:List (List Int)} {i k:Nat} {n:Int} {s:List Nat} {r:List Int},0<=n->rows.length=l.length->l[k]?=some s->rows[k]?=some r->aeu mark (i+k) s=true->(uY nums rows (wR mark l i n))[acs mark l i k]?=some (r.map (LJ nums))
 | [],_,_,_,_,_,_,_,_,h,_,_=>by simp at h
 | _::_,[],_,_,_,_,_,_,hl,_,_,_=>by simp at hl
 | t::l,q::rows,i,k,n,s,r,hn,hl,h,hr,hk=>by
   rw[wR];have zS:rows.length=l.length:=(by simpa using hl)
   cases k with
   | zero=>
     obtain rfl:t=s:=(by simpa using h);obtain rfl:q=r:=(by simpa using hr);rw[Nat.add_zero] at hk;rw[if_pos (aal.1 hk),uY,if_neg zO,ajo];rfl
   | succ k=>
     have h':l[k]?=some s:=(by simpa using h);have Aq:rows[k]?=some r:=(by simpa using hr);have fM:aeu mark (i+1+k) s=true:=(by rw[show i+1+k=i+(k+1) by omega];exact hk);rw[acs];by_cases ht:i=0\/mark t=true
     ·rw[if_pos ht,if_pos (aal.2 ht),uY,if_neg zO,Nat.add_comm 1,List.getElem?_cons_succ];exact aj3 zO zS h' Aq fM
     rw[if_neg ht,if_neg (λe=>ht (aal.1 e)),uY,if_pos zO,Nat.zero_add];exact aj3 hn zS h' Aq fM
theorem agS{mark fin:List Nat->Bool}:∀(l:List (List Nat)) (i:Nat),(A7 mark fin l i).length=acs mark l i l.length
 | [],_=>rfl
 | t::l,i=>by
   rw[A7,z9,acs]
   split
   ·rename_i h;rw[if_pos (aal.2 h),z9,agS l,Nat.add_comm]
   rename_i h;rw[if_neg (λe=>h (aal.1 e)),agS l,Nat.zero_add]
theorem aj6{mark:List Nat->Bool}{nums:List Int}:∀(l:List (List Nat)) (rows:List (List Int)) (i:Nat) (n:Int),0<=n->rows.length=l.length->(uY nums rows (wR mark l i n)).length=acs mark l i l.length
 | [],[],_,_,_,_=>by rw[uY];rfl
 | [],_::_,_,_,_,h=>by simp at h
 | _::_,[],_,_,_,h=>by simp at h
 | t::l,q::rows,i,n,hn,hl=>by
   have zS:rows.length=l.length:=(by simpa using hl);rw[wR,z9,acs];by_cases ht:i=0\/mark t=true
   ·rw[if_pos ht,if_pos (aal.2 ht),uY,if_neg zO,z9,aj6 l rows _ _ zO zS,Nat.add_comm]
   rw[if_neg ht,if_neg (λe=>ht (aal.1 e)),uY,if_pos zO,aj6 l rows _ _ hn zS,Nat.zero_add]
theorem ayU{mark:List Nat->Bool}:∀{l:List (List Nat)} {i k:Nat} {s:List Nat},l[k]?=some s->aeu mark (i+k) s=true->acs mark l i k<acs mark l i l.length
 | [],_,_,_,h,_=>by simp at h
 | t::l,i,k,s,h,hk=>by
   rw[z9]
   cases k with
   | zero=>
     obtain rfl:t=s:=(by simpa using h);rw[Nat.add_zero] at hk;rw[ajo,acs,if_pos hk];omega
   | succ k=>
     have h':l[k]?=some s:=(by simpa using h);have fM:aeu mark (i+1+k) s=true:=(by rw[show i+1+k=i+(k+1) by omega];exact hk);rw[acs,acs];have:=ayU h' fM;omega
def apn(mark:List Nat->Bool)(sets:List (List Nat))(S:List Nat)(n:Nat):Prop:=∃k,sets[k]?=some S/\aeu mark k S=true/\n=acs mark sets 0 k
section
variable {mark fin:List Nat->Bool} {jD:List Nat->Nat->List Nat} {K:Nat} {sets:List (List Nat)} {rows:List (List Int)} {a:zZ}
theorem avF(h:sets[0]?=some [0]):apn mark sets [0] 0:=⟨0,h,aal.2 (.inl rfl),by cases sets<;>rfl⟩
theorem avH{S:List Nat}{n:Nat}(h:apn mark sets S n):(TM a mark fin sets rows).final[n]?=some (fin S):=by
 obtain⟨k,h1,h2,rfl⟩:=h;exact ajY h1 (by rw[Nat.zero_add];exact h2)
theorem ay8(ht:OO jD K sets rows)(hl:rows.length=sets.length){S:List Nat}{n:Nat}(h:apn mark sets S n){x:Nat}(hx:x<K)(h0:sets[0]?=some [0])(dD:jD S x≠[0]):
 ∃r v,(TM a mark fin sets rows).steps[n]?=some r/\r.length=K/\r[x]?=some v/\((v= -1/\(jD S x=[]\/mark (jD S x)=false))\/∃n':Nat,v=(n':Int)/\n'<(TM a mark fin sets rows).final.length/\jD S x≠[]/\mark (jD S x)=true/\apn mark sets (jD S x) n'):=by
 obtain⟨k,h1,h2,rfl⟩:=h;have hk:=(z4.1 h1).1;obtain⟨r,hr⟩:∃r,rows[k]?=some r:=⟨_,z6 zO⟩;obtain⟨AU,s,hs,aI⟩:=ht.row k r hr;obtain rfl:S=s:=zI (h1.symm.trans hs);obtain⟨v,hv,hc⟩:=aI x hx;refine⟨r.map (LJ (wR mark sets 0 0)),LJ (wR mark sets 0 0) v,aj3 (Int.le_refl 0) hl h1 hr (by rw[Nat.zero_add];exact h2),by rw[z8];exact AU,by rw[z17,hv];rfl,?_⟩
 rcases hc with ⟨h3,rfl⟩ | ⟨h3,j,h4,rfl⟩
 ·exact .inl ⟨rfl,.inl h3⟩
 have hm:LJ (wR mark sets 0 0) (j:Int)=if aeu mark j (jD S x) then ((acs mark sets 0 j:Nat):Int) else -1:=by
  unfold LJ;rw[if_pos (Int.natCast_nonneg j),Int.toNat_natCast,alM h4,Option.getD_some,Nat.zero_add,Int.zero_add]
 rw[hm];have hj:j≠0:=λe=>dD (by rw[e,h0] at h4;exact(zI h4).symm);by_cases hk:aeu mark j (jD S x)=true
 ·rw[if_pos hk];have kV:mark (jD S x)=true:=(aal.1 hk).resolve_left hj;refine .inr ⟨_,rfl,?_,h3,kV,j,h4,hk,rfl⟩;show _<(A7 mark fin sets 0).length;rw[agS];exact ayU h4 (by rw[Nat.zero_add];exact hk)
 rw[if_neg hk];refine .inl ⟨rfl,.inr ?_⟩
 cases hq:mark (jD S x) with
 | false=>rfl
 | true=>exact absurd (aal.2 (.inr hq)) hk
theorem ay9(hl:rows.length=sets.length):(TM a mark fin sets rows).steps.length=(TM a mark fin sets rows).final.length:=by
 show (uY _ rows _).length=(A7 mark fin sets 0).length;rw[aj6 sets rows 0 0 (Int.le_refl 0) hl,agS]
end
end Go.Proofs.YtgmnnegfndpakaaGreatDoor
namespace Go.Proofs.YtgmnnegfndpakaaGreatDoor
open Go Go.RowKit
noncomputable def acW(m:eQ)(w:List Nm)(k:Nat):List Nat:=(w.take k).foldl (lZ m) [0]
theorem aMx(m:eQ)(w:List Nm):acW m w 0=[0]:=by unfold acW;rw[List.take_zero];rfl
theorem azY{m:eQ}{w:List Nm}{k:Nat}{n:Nm}(h:w[k]?=some n):acW m w (k+1)=lZ m (acW m w k) n:=by
 unfold acW;rw[List.take_add_one,h,Option.toList_some,List.foldl_append];rfl
theorem alx(m:eQ)(w:List Nm){j k:Nat}(h:j<=k):acW m (w.take k) j=acW m w j:=by
 unfold acW;rw[List.take_take,Nat.min_eq_left h]
theorem agQ{m:eQ}{lv:List Nat}:∀(u v:List Nm) (i:Nat) (set:List Nat),(∀j,j<u.length->EX ((u.take (j+1)).foldl (lZ m) set) lv=true)->QK m lv (u++v) i set=QK m lv v (i+u.length) (u.foldl (lZ m) set)
 | [],v,i,set,_=>by simp
 | n::u,v,i,set,h=>by
   have h0:=h 0 zP;simp only[List.take_succ_cons,List.take_zero,List.foldl_cons,List.foldl_nil] at h0
   rw[List.cons_append,QK,if_pos h0,agQ u v (i+1) _ (λj hj=>by
    have:=h (j+1) (by simp;omega);rw[List.take_succ_cons,List.foldl_cons] at this
    exact this),z9,List.foldl_cons]
   congr 1
   omega
def azZ(m:eQ)(w:List Nm)(k:Nat):Prop:=∀j,j<k->EX (acW m w (j+1)) (aao m)=true
theorem aPM{m:eQ}{w:List Nm}{k:Nat}(hk:k<=w.length)(h:azZ m w k):QK m (aao m) (w.take k) 0 [0]=(qA m (acW m w k),k):=by
 have hl:(w.take k).length=k:=(by rw[List.length_take];omega)
 have:=agQ (m:=m) (lv:=aao m) (w.take k) [] 0 [0] (λj hj=>by
  rw[hl] at hj;have e:=alx m w (j:=j+1) (k:=k) zO;unfold acW at e;rw[e]
  exact h j hj)
 rw[List.append_nil] at this;rw[this,hl,Nat.zero_add];rfl
theorem aMK{m:eQ}{w:List Nm}{k:Nat}{n:Nm}(hn:w[k]?=some n)(h:azZ m w k)(hd:EX (acW m w (k+1)) (aao m)=false):QK m (aao m) w 0 [0]=(false,k):=by
 obtain⟨hk,CO⟩:=z4.1 hn;have hl:(w.take k).length=k:=(by rw[List.length_take];omega);have hw:w=w.take k++n::w.drop (k+1):=(by rw[<-CO,<-nZ hk,List.take_append_drop])
 have:=agQ (m:=m) (lv:=aao m) (w.take k) (n::w.drop (k+1)) 0 [0] (λj hj=>by
  rw[hl] at hj;have e:=alx m w (j:=j+1) (k:=k) zO;unfold acW at e;rw[e]
  exact h j hj)
 rw[<-hw,hl,Nat.zero_add] at this;rw[this,QK];rw[azY hn] at hd;rw[show (w.take k).foldl (lZ m) [0]=acW m w k from rfl,hd,if_neg zP]
section
variable {elems:List (List Nm)} {p:aJ}
theorem aAh{n:Int}{top:Bool}{num:Nat}(hf:bT n top p=true){i:Nat}{q q':aJ}(h:(i,q)∈aaj p num)(h':(i,q')∈aaj p num):q=q':=by
 have ha:=ajJ n p top num hf;obtain⟨j,hj⟩:=List.getElem?_of_mem h;obtain⟨j',GL⟩:=List.getElem?_of_mem h';obtain⟨l1,e1⟩:=z4.1 hj;obtain⟨l2,e2⟩:=z4.1 GL;rw[List.pairwise_iff_getElem] at ha
 have g:∀(a b:Nat) (hla:a<(aaj p num).length) (hlb:b<(aaj p num).length),a<b->(aaj p num)[a].1<(aaj p num)[b].1:=λa b hla hlb nz=>by
  have:=ha a b (by rw[z8];exact hla) (by rw[z8];exact hlb) nz;rwa [List.getElem_map,List.getElem_map] at this
 have hjj:j=j':=by
  rcases Nat.lt_trichotomy j j' with aN | he | hgt
  ·have:=g j j' l1 l2 aN;rw[e1,e2] at this;exact absurd this (Nat.lt_irrefl _)
  ·exact he
  have:=g j' j l2 l1 hgt;rw[e1,e2] at this;exact absurd this (Nat.lt_irrefl _)
 subst hjj;rw[hj] at GL;exact(Prod.mk.inj (zI GL)).2
noncomputable def nextL(m:eQ)(S:List Nat):List Nat:=sset (S.flatMap (NF m (aao m)))
theorem aly{m:eQ}{S:List Nat}{i:Nat}:i∈nextL m S↔∃s∈S,∃x∈gK m s,x.dst∈aao m/\Hr m.elems x.leaf=true/\x.num=i:=by
 unfold nextL NF;rw[wI,List.mem_flatMap];constructor
 ·rintro⟨s,hs,h⟩;obtain⟨x,hx,rfl⟩:=List.mem_map.1 h;obtain⟨h1,h2⟩:=List.mem_filter.1 hx;rw[z7,z18] at h2;exact⟨s,hs,x,h1,h2.1,h2.2,rfl⟩
 rintro⟨s,hs,x,h1,h2,h3,rfl⟩;exact⟨s,hs,List.mem_map.2 ⟨x,List.mem_filter.2 ⟨h1,by rw[z7,z18];exact⟨h2,h3⟩⟩,rfl⟩⟩
theorem agv(elems:List (List Nm))(p:aJ):(eU elems p).elems=elems:=by unfold eU;split<;>rfl
theorem aML(hc:kN elems p=0)(S:List Nat)(n:Nm):EX (lZ (eU elems p) S n) (aao (eU elems p))=true↔∃i∈nextL (eU elems p) S,∃q,(i,q)∈aaj p 0/\Gf elems q n=true:=by
 unfold EX;rw[List.any_eq_true];constructor
 ·rintro⟨t,ht,hl⟩;rw[z18] at hl;obtain⟨s,hs,x,hx,ha,rfl⟩:=acx.1 ht;refine⟨x.num,aly.2 ⟨s,hs,x,hx,hl,agE ha,rfl⟩,x.leaf,af4 hc hx,?_⟩;rw[agv] at ha;exact ha
 rintro⟨i,hi,q,hq,ha⟩;obtain⟨s,hs,x,hx,hl,-,rfl⟩:=aly.1 hi;obtain rfl:=aAh (J5 hc).2.2.2.2.1 hq (af4 hc hx);exact⟨x.dst,acx.2 ⟨s,hs,x,hx,by rw[agv];exact ha,rfl⟩,decide_eq_true hl⟩
theorem step_pos{m:eQ}{s:Nat}{x:Stp}(h:x∈gK m s):0<x.dst:=by
 by_cases ha:m.all=[]
 ·obtain⟨i,q,-,-,rfl⟩:=(acy ha).1 h;exact Nat.succ_pos i
 have he:m.all.isEmpty=false:=by cases hq:m.all with
  | nil=>exact absurd hq ha
  | cons a l=>rfl
 unfold gK at h;rw[he] at h
 have:∀(l:List aJ) (s i unit rest:Nat) (x:Stp),0<unit->x∈qH l s i unit rest->0<x.dst:=by
  intro l
  induction l with
  | nil=>intro s i unit rest x _ hx;simp[qH] at hx
  | cons p l ih=>
    intro s i unit rest x hu hx;rw[qH,z12] at hx
    rcases hx with hx | hx
    ·split at hx
     ·rw[og] at hx;subst hx;show 0<s+unit;omega
     simp at hx
    exact ih s (i+1) (4*unit) _ x zO hx
 exact this _ _ _ _ _ x zO h
theorem aPP{m:eQ}(S:List Nat)(n:Nm):lZ m S n≠[0]:=λh=>by
 obtain⟨s,-,x,hx,-,h0⟩:=acx.1 (show 0∈lZ m S n by rw[h];simp);have:=step_pos hx;omega
theorem aJx(hc:kN elems p=0)(h:EX [0] (aao (eU elems p))=false)(n:Nm):EX (lZ (eU elems p) [0] n) (aao (eU elems p))=false:=by
 cases hm:EX (lZ (eU elems p) [0] n) (aao (eU elems p)) with
 | false=>rfl
 | true=>
   unfold EX at hm;obtain⟨t,ht,hl⟩:=List.any_eq_true.1 hm;rw[z18] at hl;obtain⟨s,hs,x,hx,ha,rfl⟩:=acx.1 ht;rw[og] at hs;subst hs;obtain⟨h1,t,h2,h3⟩:=(afW (MH hc) (FW hc) _).1 hl;have h0:0∈aao (eU elems p):=(afW (MH hc) (FW hc) _).2 ⟨.refl _,t,h2.head ⟨x,hx,agE ha,rfl⟩,h3⟩
   have:EX [0] (aao (eU elems p))=true:=by
    unfold EX;exact List.any_eq_true.2 ⟨0,zP,decide_eq_true h0⟩
   rw[h] at this;cases this
end
end Go.Proofs.YtgmnnegfndpakaaGreatDoor
namespace Go.Proofs.YtgmnnegfndpakaaGreatDoor
open Go.RowKit
section
variable {elems:List (List Nm)} {p:aJ}
def ajS(p:aJ)(elems:List (List Nm))(a:Aut)(w:List Nm)(k st:Nat):Prop:=∃sets rows,oU (xX (eU elems p) (mZ elems [p])) (mZ elems [p]).size 1001 0 [[0]] []=some (sets,rows)/\
 a=TM (mZ elems [p]) (λs=>EX s (aao (eU elems p))) (qA (eU elems p)) sets rows/\
 apn (λs=>EX s (aao (eU elems p))) sets (acW (eU elems p) w k) st/\azZ (eU elems p) w k
theorem aza(h:(DJ p elems).2=0):kN elems p=0/\∃sets rows,oU (xX (eU elems p) (mZ elems [p])) (mZ elems [p]).size 1001 0 [[0]] []=some (sets,rows)/\
 (DJ p elems).1=TM (mZ elems [p]) (λs=>EX s (aao (eU elems p))) (qA (eU elems p)) sets rows:=by
 unfold DJ at h ⊢
 split at h
 ·rename_i hc;exact absurd h hc
 rename_i hc;rw[if_neg hc]
 cases hm:oU (xX (eU elems p) (mZ elems [p])) (mZ elems [p]).size 1001 0 [[0]] [] with
 | none=>rw[hm] at h;cases h
 | some r=>exact⟨Decidable.of_not_not hc,r.1,r.2,rfl,rfl⟩
theorem aPb(h:(DJ p elems).2≠0):(DJ p elems).1=nilA:=by
 unfold DJ at h ⊢
 split
 ·rfl
 rename_i hc;rw[if_neg hc] at h
 cases hm:oU (xX (eU elems p) (mZ elems [p])) (mZ elems [p]).size 1001 0 [[0]] [] with
 | none=>rfl
 | some r=>rw[hm] at h;exact absurd rfl h
theorem ar4{sets:List (List Nat)}{rows:List (List Int)}(h:oU (xX (eU elems p) (mZ elems [p])) (mZ elems [p]).size 1001 0 [[0]] []=some (sets,rows)):sets[0]?=some [0]:=by
 obtain⟨more,h1,-⟩:=(aiu (P:=λ_=>True) (λ_ _=>trivial) h).1.pre;have h2:sets=[[0]]++more:=h1;rw[h2];rfl
theorem aPc(h:(DJ p elems).2=0)(w:List Nm):ajS p elems (DJ p elems).1 w 0 0:=by
 obtain⟨-,sets,rows,h1,h2⟩:=aza h;exact⟨sets,rows,h1,h2,by rw[aMx];exact avF (ar4 h1),λj hj=>by omega⟩
theorem aPe{a:Aut}{w:List Nm}{k st:Nat}(h:ajS p elems a w k st):a.steps.length=a.final.length/\a.final[st]?=some (qA (eU elems p) (acW (eU elems p) w k)):=by
 obtain⟨sets,rows,h1,rfl,h3,-⟩:=h;exact⟨ay9 (aiu (P:=λ_=>True) (λ_ _=>trivial) h1).2.2,avH h3⟩
theorem aPd(hc:kN elems p=0){a:Aut}{w:List Nm}{k st:Nat}(h:ajS p elems a w k st)(hk:k<=w.length)(hl:w.length<=300)(hv:w.any oZ=false):Fp p elems (w.take k)=(qA (eU elems p) (acW (eU elems p) w k),k,0):=by
 obtain⟨sets,rows,-,-,-,h4⟩:=h
 have Ue:(w.take k).any oZ=false:=by
  rw[List.any_eq_false] at hv ⊢;exact λx hx=>hv x (List.mem_of_mem_take hx)
 unfold Fp;rw[hc,if_neg zP,if_neg (by rw[List.length_take];omega),Ue,if_neg zP,aPM hk h4]
theorem aGj(hc:kN elems p=0){w:List Nm}{k:Nat}(hl:w.length<=300)(hv:w.any oZ=false):TG p elems (w.take k)=if EX (acW (eU elems p) w k) (aao (eU elems p))=true then (nextL (eU elems p) (acW (eU elems p) w k),qA (eU elems p) (acW (eU elems p) w k),0) else ([],false,4):=by
 have Ue:(w.take k).any oZ=false:=by
  rw[List.any_eq_false] at hv ⊢;exact λx hx=>hv x (List.mem_of_mem_take hx)
 unfold TG;rw[hc,if_neg zP,if_neg (by rw[List.length_take];omega),Ue,if_neg zP]
 cases hm:EX (acW (eU elems p) w k) (aao (eU elems p)) with
 | true=>rw[if_neg (by unfold acW at hm;rw[hm];simp),if_pos rfl];rfl
 | false=>rw[if_pos (by unfold acW at hm;exact hm),if_neg zP]
theorem aGk{a:Aut}{w:List Nm}{k st:Nat}(h:ajS p elems a w k st)(hk:0<k):EX (acW (eU elems p) w k) (aao (eU elems p))=true:=by
 obtain⟨sets,rows,-,-,-,h4⟩:=h;have:=h4 (k - 1) zO;rwa [show k - 1+1=k by omega] at this
theorem aPf(hc:kN elems p=0){a:Aut}{w:List Nm}{k st:Nat}(h:ajS p elems a w k st){n:Nm}(hn:w[k]?=some n)(hv:oZ n=false):
 ∃(x:Nat) (r:List Int) (v:Int),adu a.names a.spaces n=((x:Int),0)/\a.steps[st]?=some r/\x<r.length/\r[x]?=some v/\
  ((v= -1/\EX (acW (eU elems p) w (k+1)) (aao (eU elems p))=false)\/∃n':Nat,v=(n':Int)/\n'<a.final.length/\EX (acW (eU elems p) w (k+1)) (aao (eU elems p))=true/\ajS p elems a w (k+1) n'):=by
 obtain⟨sets,rows,h1,rfl,h3,h4⟩:=h;obtain⟨hg,ht,hlen⟩:=aiu (P:=λ_=>True) (λ_ _=>trivial) h1;obtain⟨x,e1,e2,e3⟩:=aMu (aPL elems [p]) hv;obtain⟨q1,q2⟩:=VW hc;have iY:mF [p]<=4000:=(by rw[mF,mF];omega);obtain⟨q3,q4⟩:=Yf (elems:=elems) (ps:=[p]) (N:=10000) zO;have agV:=aMw (ps:=[p]) (λq hq=>by rw[og.1 hq];exact hc) (J5 hc).2.1 zO zO
 have hb:xX (eU elems p) (mZ elems [p]) (acW (eU elems p) w k) x=acW (eU elems p) w (k+1):=by
  rw[azY hn];unfold xX;exact aMJ hc (og.2 rfl) (by rw[aJt agV];have:=auM n;rw[hv] at this;simpa using this) e3 _
 obtain⟨r,v,g1,g2,g3,g4⟩:=ay8 (fin:=qA (eU elems p)) (a:=mZ elems [p]) ht hlen h3 e2 (ar4 h1) (by unfold xX;exact aPP _ _);rw[hb] at g4;refine⟨x,r,v,e1,g1,by rw[g2];exact e2,g3,?_⟩
 rcases g4 with ⟨g5,g6⟩ | ⟨n',g5,g6,-,g7,g8⟩
 ·refine .inl ⟨g5,?_⟩
  rcases g6 with g6 | g6
  ·rw[g6];rfl
  exact g6
 refine .inr ⟨n',g5,g6,g7,sets,rows,h1,rfl,g8,λj hj=>?_⟩
 rcases Nat.lt_or_ge j k with aN | jT
 ·exact h4 j aN
 obtain rfl:j=k:=(by omega);exact g7
theorem aSy(hc:kN elems p=0){a:Aut}{w:List Nm}{k st:Nat}(h:ajS p elems a w k st){n:Nm}(hn:w[k]?=some n)(hl:w.length<=300)(hv:w.any oZ=false):
 (∃i∈(TG p elems (w.take k)).1,∃q,(i,q)∈aaj p 0/\Gf elems q n=true)↔EX (acW (eU elems p) w (k+1)) (aao (eU elems p))=true:=by
 rw[aGj hc hl hv,azY hn]
 cases hm:EX (acW (eU elems p) w k) (aao (eU elems p)) with
 | true=>rw[if_pos rfl,aML hc]
 | false=>
   rw[if_neg zP]
   have hk:k=0:=by
    rcases Nat.eq_zero_or_pos k with h0 | h0
    ·exact h0
    rw[aGk h h0] at hm;cases hm
   subst hk;rw[aMx] at hm ⊢;rw[aJx hc hm n];simp
theorem aPg(hc:kN elems p=0){a:Aut}{w:List Nm}{k st:Nat}(h:ajS p elems a w k st){n:Nm}(hn:w[k]?=some n)(hl:w.length<=300)(hv:w.any oZ=false)(hd:EX (acW (eU elems p) w (k+1)) (aao (eU elems p))=false):Fp p elems w=(false,k,0):=by
 obtain⟨sets,rows,-,-,-,h4⟩:=h;unfold Fp;rw[hc,if_neg zP,if_neg zO,hv,if_neg zP,aMK hn h4 hd]
end
end Go.Proofs.YtgmnnegfndpakaaGreatDoor
