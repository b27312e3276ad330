import Derived.Test.YtgmnnegfndpakaaGreatDoorJ03
set_option maxHeartbeats 20000000
set_option maxRecDepth 100000
namespace Go.Proofs.YtgmnnegfndpakaaGreatDoor
open Go.RowKit
variable{n k mn mx el pr:Int}{top:Bool}{c:aT}{args ps:List aJ}{elems:List (List Nm)}{p:aJ}{a:zZ}{α:Type}{eq:α->α->Bool}
theorem auM(n:Nm):oZ n=!jJ n.1 n.2:=by
 unfold oZ jF nmC
 have h1:ni 10 (.mk 1 n.1 n.2 ⟨#[]⟩ [] [])=1:=by
  rw[(QB _ 10).1 (by rw[O4,LY];decide) (by rw[kC,iZ];decide),kC,iZ]
 have h2:rU (.mk 1 n.1 n.2 ⟨#[]⟩ [] [])=jJ n.1 n.2:=by
  rw[rU,lI];unfold uI;cases jJ n.1 n.2<;>simp
 rw[h1,h2];cases jJ n.1 n.2<;>simp
mutual
theorem afz:∀c:aT,Bh c=mnC c
 | .mk k ns nl s ex ar=>by rw[Bh,mnC,afG ex,afG ar,d7]
theorem afG:∀l:List aT,Dy l=mnL l
 | []=>by rw[Dy,mnL]
 | c::l=>by rw[Dy,mnL,afz c,afG l]
end
mutual
theorem afH:∀c:aT,Bi c=msC c
 | .mk k ns nl s ex ar=>by rw[Bi,msC,afI ex,afI ar,d7]
theorem afI:∀l:List aT,Dz l=msL l
 | []=>by rw[Dz,msL]
 | c::l=>by rw[Dz,msL,afH c,afI l]
end
mutual
theorem aqU:∀c:aT,rU c=true->(∀n∈mnC c,jJ n.1 n.2=true)/\∀s∈msC c,s.size<=200
 | .mk k ns nl s ex ar,h=>by
   rw[rU,z7,z7] at h;obtain⟨⟨h1,h2⟩,h3⟩:=h;obtain⟨_,_,_,g1,g2⟩:=Uh h3;have e1:=af1 ex h1;have e2:=af1 ar h2;refine⟨λn hn=>?_,λt ht=>?_⟩
   ·rw[mnC,z12,z12] at hn
    rcases hn with (hn | hn) | hn
    ·split at hn
     ·rename_i hk;rw[og] at hn;subst hn;exact g1 hk
     simp at hn
    ·exact e1.1 n hn
    exact e2.1 n hn
   rw[msC,z12,z12] at ht
   rcases ht with (ht | ht) | ht
   ·split at ht
    ·rename_i hk;rw[og] at ht;subst ht;have hv:=g1 hk;unfold jJ at hv;simp only[z7,gy] at hv;exact hv.2
    split at ht
    ·rename_i hk;rw[og] at ht;subst ht;exact g2 hk
    simp at ht
   ·exact e1.2 t ht
   exact e2.2 t ht
theorem af1:∀l:List aT,lI l=true->(∀n∈mnL l,jJ n.1 n.2=true)/\∀s∈msL l,s.size<=200
 | [],_=>⟨λn hn=>by rw[mnL] at hn;simp at hn,λs hs=>by rw[msL] at hs;simp at hs⟩
 | c::l,h=>by
   rw[lI,z7] at h;have e1:=aqU c h.1;have e2:=af1 l h.2;refine⟨λn hn=>?_,λs hs=>?_⟩
   ·rw[mnL,z12] at hn;exact hn.elim (e1.1 n) (e2.1 n)
   rw[msL,z12] at hs;exact hs.elim (e1.2 s) (e2.2 s)
end
theorem adT(k:Int):fD k=true↔k=1\/k=2:=by
 unfold fD;rw[Bool.or_eq_true,gy,gy]
theorem ajR(hk:fD k=true)(h:bT n top (.mk k mn mx el c pr args)=true):bT n false (.mk k mn mx el c pr args)=true/\args=[]:=by
 rw[bT] at h ⊢
 rcases (adT k).1 hk with rfl | rfl
 ·rw[j6 rfl] at h ⊢;refine⟨h,?_⟩;simp only[z7,gy] at h;exact g9 h.2
 rw[j5 zD,j6 rfl] at h ⊢;refine⟨h,?_⟩;simp only[z7,gy] at h;exact g9 h.1.1.1.2
theorem af2(hk:¬fD k=true)(h:bT n top (.mk k mn mx el c pr args)=true):jZ n args=true:=by
 rw[adT] at hk;rw[bT,j5 (λe=>hk (.inl e)),j5 (λe=>hk (.inr e))] at h
 split at h
 ·rw[z7] at h;exact h.2
 split at h
 ·rw[z7] at h;exact h.2
 split at h
 ·rw[z7,z7] at h;exact h.1.2
 cases h
mutual
theorem afK(n:Int):∀(p:aJ) (top:Bool) (num:Nat),bT n top p=true->∀l∈aaj p num,(fD l.2.kind=true/\l.2.args=[]/\bT n false l.2=true)/\(num<=l.1/\l.1<num+dh p)/\(l.2.kind=2->(∀x∈Bh l.2.cls,x∈DC p)/\∀s∈Bi l.2.cls,s∈DF p)
 | .mk k mn mx el c pr args,top,num,hf,l,hl=>by
   rw[aaj] at hl;rw[dh,DC,DF];by_cases hk:fD k=true
   ·rw[j6 hk,og] at hl;subst hl;obtain⟨h1,h2⟩:=ajR hk hf;refine⟨⟨hk,h2,h1⟩,⟨zR _,by show num<_;omega⟩,λh3=>?_⟩;have h3':k=2:=h3;rw[j6 h3',j6 h3'];exact⟨λx hx=>z12.2 (.inl hx),λs hs=>z12.2 (.inl hs)⟩
   rw[j5 hk] at hl;obtain⟨h1,h2,h3⟩:=aeh n args (num+1) (af2 hk hf) l hl;exact⟨h1,⟨zO,zO⟩,λh4=>⟨λx hx=>z12.2 (.inr ((h3 h4).1 x hx)),λs hs=>z12.2 (.inr ((h3 h4).2 s hs))⟩⟩
theorem aeh(n:Int):∀(ps:List aJ) (num:Nat),jZ n ps=true->∀l∈aaH ps num,(fD l.2.kind=true/\l.2.args=[]/\bT n false l.2=true)/\(num<=l.1/\l.1<num+dZ ps)/\(l.2.kind=2->(∀x∈Bh l.2.cls,x∈DD ps)/\∀s∈Bi l.2.cls,s∈DI ps)
 | [],num,_,l,hl=>by rw[aaH] at hl;simp at hl
 | p::ps,num,hf,l,hl=>by
   rw[jZ,z7,z7] at hf;rw[aaH,z12] at hl;rw[dZ,DD,DI]
   rcases hl with hl | hl
   ·obtain⟨h1,h2,h3⟩:=afK n p false num hf.1.2 l hl;exact⟨h1,⟨zO,zO⟩,λh4=>⟨λx hx=>z12.2 (.inl ((h3 h4).1 x hx)),λs hs=>z12.2 (.inl ((h3 h4).2 s hs))⟩⟩
   obtain⟨h1,h2,h3⟩:=aeh n ps (num+dh p) hf.2 l hl;exact⟨h1,⟨zO,zO⟩,λh4=>⟨λx hx=>z12.2 (.inr ((h3 h4).1 x hx)),λs hs=>z12.2 (.inr ((h3 h4).2 s hs))⟩⟩
end
mutual
theorem ajJ(n:Int):∀(p:aJ) (top:Bool) (num:Nat),bT n top p=true->((aaj p num).map (·.1)).Pairwise (· < ·)
 | .mk k mn mx el c pr args,top,num,hf=>by
   rw[aaj];by_cases hk:fD k=true
   ·rw[j6 hk];simp
   rw[j5 hk];exact agp n args (num+1) (af2 hk hf)
theorem agp(n:Int):∀(ps:List aJ) (num:Nat),jZ n ps=true->((aaH ps num).map (·.1)).Pairwise (· < ·)
 | [],num,_=>by rw[aaH];simp
 | p::ps,num,hf=>by
   rw[jZ,z7,z7] at hf;rw[aaH,Qb,List.pairwise_append];refine⟨ajJ n p false num hf.1.2,agp n ps _ hf.2,λa ha b hb=>?_⟩;obtain⟨l,hl,rfl⟩:=List.mem_map.1 ha;obtain⟨l',zS,rfl⟩:=List.mem_map.1 hb;have h1:=(afK n p false num hf.1.2 l hl).2.1;have h2:=(aeh n ps _ hf.2 l' zS).2.1;omega
end
theorem af4(h:kN elems p=0){s:Nat}{x:Stp}(hx:x∈gK (eU elems p) s):(x.num,x.leaf)∈aaj p 0:=by
 by_cases hk:p.kind=5
 ·obtain⟨-,-,dD,-,ha⟩:=af7 h hk;have hb:eU elems p=⟨elems,[],[],[],false,p.args⟩:=(by unfold eU;rw[j6 hk]);rw[hb] at hx;unfold gK at hx
  have he:p.args.isEmpty=false:=by cases hq:p.args with
   | nil=>exact absurd hq dD
   | cons a l=>rfl
  dsimp only at hx;rw[he] at hx;obtain⟨j,h1,h2⟩:=ajF _ _ _ _ _ x hx;obtain⟨k,mn,mx,el,c,pr,args⟩:=p;have fM:k=5:=hk;subst fM;rw[aaj,j5 zD,h2]
  have uw:∀q∈args,fD q.kind=true/\q.args=[]:=λq hq=>by
   obtain⟨a1,-,-,-,a5⟩:=ha q hq;obtain⟨k',nI,mx',uo,c',pr',args'⟩:=q;exact⟨a1,(ajR a1 a5).2⟩
  have:=af0 args (0+1) uw j x.leaf h1;rw[show 0+j+1=0+1+j by omega];exact this
 have hb:eU elems p=⟨elems,(fV p 0 []).1,(fV p 0 []).2.first,(fV p 0 []).2.last,(fV p 0 []).2.empty,[]⟩:=(by unfold eU;rw[j5 hk]);obtain⟨i,q,-,hq,rfl⟩:=(acy (m:=eU elems p) (by rw[hb])).1 hx;rw[hb] at hq;have h1:=ajE (ala p 0) p.mn p.mx (dC p) [] (q.num,q.leaf) (List.mem_map.2 ⟨q,SK hq,rfl⟩);exact h1.elim (λh2=>by simp[ab8] at h2) id
def ado(a:zZ)(x y:Nm):Prop:=(∀n∈a.names,(x=n↔y=n))/\(∀s∈a.spaces,(x.1=s↔y.1=s))
theorem ado.refl(a:zZ)(x:Nm):ado a x x:=⟨λ_ _=>Iff.rfl,λ_ _=>Iff.rfl⟩
theorem ado.symm{x y:Nm}(h:ado a x y):ado a y x:=⟨λn hn=>(h.1 n hn).symm,λs hs=>(h.2 s hs).symm⟩
theorem afL{x:Nm}:x∈(mZ elems ps).names↔x∈elems.flatten\/x∈DD ps:=by
 unfold mZ adC;rw[(anX _ [] List.Pairwise.nil).2,z12];simp
theorem agK{x:ByteArray}:x∈(mZ elems ps).spaces↔x∈elems.flatten.map (·.1)\/x∈DI ps:=by
 unfold mZ adD;rw[(anY _ [] List.Pairwise.nil).2,z12];simp
theorem aAd(elems:List (List Nm))(ps:List aJ):(mZ elems ps).names.Pairwise λx y=>jg x y=true:=(anX _ [] List.Pairwise.nil).1
theorem aAe(elems:List (List Nm))(ps:List aJ):(mZ elems ps).spaces.Pairwise λx y=>kQ x y=true:=(anY _ [] List.Pairwise.nil).1
mutual
theorem aAf:∀(p:aJ) (n:Nm),n∈DC p->n.1∈DF p
 | .mk k mn mx el c pr args,n,h=>by
   rw[DC,z12] at h;rw[DF,z12]
   rcases h with h | h
   ·split at h
    ·rename_i hk;rw[j6 hk,afH];rw[afz] at h;exact .inl (azO c n h)
    simp at h
   exact .inr (af8 args n h)
theorem af8:∀(l:List aJ) (n:Nm),n∈DD l->n.1∈DI l
 | [],n,h=>by rw[DD] at h;simp at h
 | p::l,n,h=>by
   rw[DD,z12] at h;rw[DI,z12];exact h.imp (aAf p n) (af8 l n)
end
theorem aJq{n:Nm}(h:n∈(mZ elems ps).names):n.1∈(mZ elems ps).spaces:=by
 rw[afL] at h;rw[agK]
 rcases h with h | h
 ·exact .inl (List.mem_map.2 ⟨n,h,rfl⟩)
 exact .inr (af8 ps n h)
theorem aAg(hp:p∈ps){l:Nat×aJ}{num:Nat}(hf:bT n top p=true)(hl:l∈aaj p num){x y:Nm}(hv:jJ x.1 x.2=jJ y.1 y.2)(hs:ado (mZ elems ps) x y):Gf elems l.2 x=Gf elems l.2 y:=by
 obtain⟨h1,-,h3⟩:=afK n p top num hf l hl
 rcases (adT _).1 h1.1 with hk | hk
 ·unfold Gf;rw[j6 hk,j6 hk,m9,Qc,Qc]
  have key:∀z∈elemAt elems l.2.el,(x=z↔y=z):=λz hz=>hs.1 z (afL.2 (.inl (by
   unfold elemAt at hz
   cases he:elems[l.2.el.toNat]? with
   | none=>rw[he] at hz;simp at hz
   | some q=>
     rw[he] at hz
     exact List.mem_flatten.2 ⟨q,SK he,hz⟩)))
  constructor
  ·rintro⟨z,hz,he⟩;exact⟨z,hz,(jM _ _).2 ((key z hz).1 ((jM _ _).1 he))⟩
  rintro⟨z,hz,he⟩;exact⟨z,hz,(jM _ _).2 ((key z hz).2 ((jM _ _).1 he))⟩
 obtain⟨h4,h5⟩:=h3 hk
 have jb:∀x∈DC p,x∈DD ps:=λx hx=>by
  clear hs hf hl h3 h4 h5
  induction ps with
  | nil=>simp at hp
  | cons q l ih=>
    rw[DD,z12]
    rcases TT.1 hp with rfl | hp
    ·exact .inl hx
    exact .inr (ih hp)
 have aJw:∀x∈DF p,x∈DI ps:=λx hx=>by
  clear hs hf hl h3 h4 h5 jb
  induction ps with
  | nil=>simp at hp
  | cons q l ih=>
    rw[DI,z12]
    rcases TT.1 hp with rfl | hp
    ·exact .inl hx
    exact .inr (ih hp)
 rw[agD zO,agD zO,hv]
 congr 1
 refine aeR _ (λm hm=>hs.1 m (afL.2 (.inr (jb m (h4 m (by rw[afz];exact hm)))))) (λs Af=>hs.2 s (agK.2 (.inr (aJw s (h5 s (by rw[afH];exact Af))))))
theorem af9{x:α}:∀{l:List α} {i k:Nat},aaP eq x l i=k->∃y j,k=i+j/\l[j]?=some y/\eq y x=true
 | [],i,k,h=>by rw[aaP] at h;cases h
 | y::l,i,k,h=>by
   rw[aaP] at h
   split at h
   ·rename_i he;obtain rfl:=zI h;exact⟨y,0,rfl,rfl,he⟩
   obtain⟨z,j,h1,h2,h3⟩:=af9 h;exact⟨z,j+1,zO,h2,h3⟩
theorem aga{x:α}:∀{l:List α} {i:Nat},aaP eq x l i=none->∀y∈l,eq y x=false
 | [],i,_,y,hy=>by simp at hy
 | z::l,i,h,y,hy=>by
   rw[aaP] at h
   split at h
   ·cases h
   rename_i he
   rcases TT.1 hy with rfl | hy
   ·simpa using he
   exact aga h y hy
theorem agM{lt:α->α->Bool}:∀{l:List α},(l.Pairwise λx y=>lt x y=true)->acG lt l=true
 | [],_=>rfl
 | [_],_=>rfl
 | x::y::l,h=>by
   rw[List.pairwise_cons] at h;rw[acG,h.1 y zP,agM h.2];rfl
structure aEB (a:zZ):Prop where
 aMH:a.names.Pairwise λx y=>jg x y=true
 aMI:a.spaces.Pairwise λx y=>kQ x y=true
 sp:∀n∈a.names,n.1∈a.spaces
theorem aPL(elems:List (List Nm))(ps:List aJ):aEB (mZ elems ps):=⟨aAd _ _,aAe _ _,λ_ h=>aJq h⟩
theorem aMu(h:aEB a){n:Nm}(hb:oZ n=false):∃i:Nat,adu a.names a.spaces n=((i:Int),0)/\i<a.size/\ado a (iJ a i) n:=by
 unfold adu;rw[hb,agM h.aMH,agM h.aMI,j5 zP]
 cases h1:aaP eqN n a.names 0 with
 | some k=>
   obtain⟨y,j,rfl,h2,h3⟩:=af9 h1;obtain rfl:=(jM _ _).1 h3;rw[d9];refine⟨j,rfl,?_,?_⟩
   ·have:=(z4.1 h2).1;unfold zZ.size;omega
   rw[anQ h2];exact ado.refl _ _
 | none=>
   have hn:n ∉ a.names:=λhm=>by
    have:=aga h1 n hm;rw[(jM n n).2 rfl] at this;cases this
   cases h4:aaP eqS n.1 a.spaces 0 with
   | some k=>
     obtain⟨y,j,rfl,h2,h3⟩:=af9 h4;obtain rfl:=iV.1 h3;rw[d9];refine⟨a.names.length+j,by show ((a.names.length:Int)+(j:Int),(0:Int))=_;simp,?_,?_⟩
     ·have:=(z4.1 h2).1;unfold zZ.size;omega
     rw[anR h2];have hP:=UX (afp a.names n.1);refine⟨λm hm=>⟨λe=>?_,λe=>absurd (e ▸ hm) hn⟩,λs _=>Iff.rfl⟩;have h5:=hP.1;rw[(Nr _ _ _).2 (e ▸ hm)] at h5;cases h5
   | none=>
     have hs:n.1 ∉ a.spaces:=λhm=>by
      have:=aga h4 n.1 hm;rw[iV.2 rfl] at this;cases this
     refine⟨a.names.length+a.spaces.length,by show ((a.names.length:Int)+(a.spaces.length:Int),(0:Int))=_;simp,by unfold zZ.size;omega,?_⟩;rw[anS (zR _)];have hP:=(UX (afq a.spaces)).1;obtain⟨I,hI⟩:=zF (AZ (λk=>a.spaces.any λz=>eqS (dL EN k) z) a.spaces.length);rw[hI] at hP;rw[hI]
     have hni:dL EN I ∉ a.spaces:=λhm=>by
      rw[Qc.2 ⟨_,hm,iV.2 rfl⟩] at hP;cases hP
     refine⟨λm hm=>⟨λe=>?_,λe=>absurd (e ▸ hm) hn⟩,λs Af=>⟨λe=>absurd (show dL EN I∈a.spaces from (show dL EN I=s from e) ▸ Af) hni,λe=>absurd (e ▸ Af) hs⟩⟩;exact absurd (by have:=h.sp m hm;rw[<-e] at this;exact this) hni
theorem alq:∀(k n:Nat),n<10 ^ k->(pG n).length<=k
 | 0,n,h=>by
   have:n=0:=(by simpa using h);subst this;simp[pG]
 | k+1,n,h=>by
   by_cases h0:n=0
   ·subst h0;simp[pG]
   rw[Ho zO,z5];have:=alq k (n / 10) (by rw[Nat.pow_succ] at h;omega);simp;omega
theorem alr{a:ByteArray}{n:Nat}(h:n<100000):(dL a n).size<=a.size+5/\a.size<=(dL a n).size:=by
 have:=alq 5 n (by simpa using h);unfold dL;rw[ByteArray.size_append]
 have e:(⟨(pG n).toArray⟩:ByteArray).size=(pG n).length:=by
  show ((pG n).toArray).size=_;simp
 rw[e];omega
structure aJr (a:zZ):Prop where
 names:∀n∈a.names,jJ n.1 n.2=true
 spaces:∀s∈a.spaces,s.size<=200
 n1:a.names.length<100000
 n2:a.spaces.length<100000
theorem aJt(h:aJr a)(x:Nat):jJ (iJ a x).1 (iJ a x).2=true:=by
 unfold iJ
 cases h1:a.names[x]? with
 | some n=>exact h.names n (SK h1)
 | none=>
   dsimp only
   cases h2:a.spaces[x - a.names.length]? with
   | some s=>
     have hs:=h.spaces s (SK h2);have hP:=(UX (afp a.names s)).2.2;have e:(λk=>a.names.any (eqN (s,dL xB k)))=λk=>ru a.names s (dL xB k):=(by funext k;exact aCk _ _ _);show jJ s (dL xB (AZ (λk=>a.names.any (eqN (s,dL xB k))) a.names.length))=true;rw[e];have hz:=alr (a:=xB) (n:=AZ (λk=>ru a.names s (dL xB k)) a.names.length) (Qe hP h.n1);have hx:xB.size=1:=rfl;unfold jJ;simp only[z7,gy];omega
   | none=>
     have hP:=(UX (afq a.spaces)).2.2;have hz:=alr (a:=EN) (n:=AZ (λk=>a.spaces.any λz=>eqS (dL EN k) z) a.spaces.length) (Qe hP h.n2);have hx:EN.size=5:=rfl;have hy:xB.size=1:=rfl;show jJ (dL EN (AZ (λk=>a.spaces.any λz=>eqS (dL EN k) z) a.spaces.length)) xB=true;unfold jJ;simp only[z7,gy];omega
mutual
theorem alv(n:Int):∀(p:aJ) (top:Bool),bT n top p=true->(∀x∈DC p,jJ x.1 x.2=true)/\∀s∈DF p,s.size<=200
 | .mk k mn mx el c pr args,top,hf=>by
   rw[DC,DF];by_cases hk:fD k=true
   ·obtain⟨-,ha⟩:=ajR hk hf;subst ha;rw[DD,DI,m8,m8];by_cases h2:k=2
    ·subst h2;rw[j6 rfl,j6 rfl,afz,afH];rw[bT,j5 zD,j6 rfl] at hf;simp only[z7,gy] at hf;exact aqU c (QD hf.2).2
    rw[j5 h2,j5 h2];simp
   have h2:k≠2:=λe=>hk ((adT k).2 (.inr e));rw[j5 h2,j5 h2,d6,d6];exact ajK n args (af2 hk hf)
theorem ajK(n:Int):∀ps:List aJ,jZ n ps=true->(∀x∈DD ps,jJ x.1 x.2=true)/\∀s∈DI ps,s.size<=200
 | [],_=>by rw[DD,DI];simp
 | p::ps,hf=>by
   rw[jZ,z7,z7] at hf;have e1:=alv n p false hf.1.2;have e2:=ajK n ps hf.2;rw[DD,DI];exact⟨λx hx=>(z12.1 hx).elim (e1.1 x) (e2.1 x),λx hx=>(z12.1 hx).elim (e1.2 x) (e2.2 x)⟩
end
theorem agq(h:elems.any badL=false):∀n∈elems.flatten,jJ n.1 n.2=true:=λn hn=>by
 obtain⟨l,hl,hn⟩:=List.mem_flatten.1 hn
 have h1:badL l=false:=by
  cases hb:badL l with
  | false=>rfl
  | true=>rw[Qc.2 ⟨l,hl,hb⟩] at h;cases h
 unfold badL at h1;rw[Bool.or_eq_false_iff] at h1
 cases hv:jJ n.1 n.2 with
 | true=>rfl
 | false=>
   have:l.any oZ=true:=Qc.2 ⟨n,hn,by rw[auM,hv];rfl⟩;rw[this] at h1;cases h1.2
theorem aMw(h:∀p∈ps,kN elems p=0)(he:elems.any badL=false)(hn:(mZ elems ps).names.length<100000)(hs:(mZ elems ps).spaces.length<100000):aJr (mZ elems ps):=by
 have hp:∀qs:List aJ,(∀p∈qs,kN elems p=0)->(∀x∈DD qs,jJ x.1 x.2=true)/\∀s∈DI qs,s.size<=200:=λqs=>by
  induction qs with
  | nil=>intro _;rw[DD,DI];simp
  | cons q qs ih=>
    intro hq;have e1:=alv _ q true (J5 (hq q zP)).2.2.2.2.1;have e2:=ih λp hp=>hq p (by simp[hp]);rw[DD,DI];exact⟨λx hx=>(z12.1 hx).elim (e1.1 x) (e2.1 x),λx hx=>(z12.1 hx).elim (e1.2 x) (e2.2 x)⟩
 have hv:=hp ps h;refine⟨λn hm=>?_,λs hm=>?_,hn,hs⟩
 ·rw[afL] at hm;exact hm.elim (agq he n) (hv.1 n)
 rw[agK] at hm
 rcases hm with hm | hm
 ·obtain⟨n,h1,rfl⟩:=List.mem_map.1 hm;have:=agq he n h1;unfold jJ at this;simp only[z7,gy] at this;exact this.2
 exact hv.2 s hm
theorem aMJ(h:kN elems p=0)(hp:p∈ps){x y:Nm}(hv:jJ x.1 x.2=jJ y.1 y.2)(hs:ado (mZ elems ps) x y)(set:List Nat):lZ (eU elems p) set x=lZ (eU elems p) set y:=by
 have he:(eU elems p).elems=elems:=(by unfold eU;split<;>rfl);unfold lZ
 congr 2
 funext s;unfold IJ;rw[he]
 congr 1
 refine List.filter_congr λz hz=>?_;exact aAg hp (J5 h).2.2.2.2.1 (af4 h hz) hv hs
