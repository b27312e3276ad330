import Derived.Test.YtgmnnegfndpakaaGreatDoorAttW
set_option maxHeartbeats 20000000
set_option maxRecDepth 100000
namespace Go.Proofs.YtgmnnegfndpakaaGreatDoor
open Go.RowKit Go.Proofs.Tryz
variable{W w:World}{mb i:Nat}{L:List (Nat×aJ)}
theorem aVp(nA:Option Addr)(nn nc:Nat)(sA:Option Addr)(sn sc:Nat)(fA:Option Addr)(fn fc:Nat)(tA:Option Addr)(tn tc:Nat)(w:World):Cl 88 #[.agg #[(nA,nn,nc),(sA,sn,sc),(fA,fn,fc),(tA,tn,tc)]] w λe w'=>e= .returned (.func (.func 150) #[] #[(w,0)])/\w'.heap[w.heap.size]?=Zc #[(nA,nn,nc),(sA,sn,sc),(fA,fn,fc),(tA,tn,tc)] 51/\w'=w.heap.size+1/\Bw w w':=by
 obtain⟨w1,bI,S1,nC,ai⟩:=af w (Zc #[(nA,nn,nc),(sA,sn,sc),(fA,fn,fc),(tA,tn,tc)] 51);have e1:w1=w.heap.size+1:=(by rw[<-bI];simp);obtain⟨aQ,Ud⟩:=zJ2 S1 e1;clear S1 e1;go_enter func88,ntmps88;go_wp2_with fail;go_ret;exact⟨rfl,aQ,Ud,ai⟩
def aGa:aJ:=.mk 0 0 0 0 (.mk 0 aqg aqg aqg [] []) 0 []
def zCs:List Value:=[(0:Int),(0:Int),(0:Int),(0:Int),(0:Int),.string ⟨#[]⟩,.string ⟨#[]⟩,.string ⟨#[]⟩,(),(),(0:Int),()]
theorem aVq(w:World)(F:Nat->Prop):au w F (aZ aGa) zCs:=by
 unfold aGa zCs aqg;rw[Et,Es];simp only[m7,d6,List.map_nil,au.gu,au.oL,gI.rq,gI.LX];exact⟨_,_,rfl,rfl,_,_,rfl,rfl,_,_,rfl,rfl,_,_,rfl,rfl,_,_,rfl,rfl,_,_,rfl,rfl,_,_,rfl,rfl,_,_,rfl,rfl,_,_,rfl,⟨none,0,rfl,zP,λh=>by simp at h⟩,_,_,rfl,⟨none,0,rfl,zP,λh=>by simp at h⟩,_,_,rfl,rfl,_,_,rfl,⟨none,0,rfl,zP,λh=>by simp at h⟩,rfl⟩
theorem aVr(elems:List (List Nm))(n:Nm):Gf elems aGa n=false:=by
 have h:xO (.mk 0 aqg aqg aqg [] [])≠0:=by
  have:xO (.mk 0 aqg aqg aqg [] [])=2:=zS2;rw[this];decide
 unfold Gf;rw[j5 (by show ¬(0:Int)=1;decide)];show ((xg (xO (.mk 0 aqg aqg aqg [] [])) _ _).1&&_)=false;unfold xg;rw[j5 h];rfl
theorem PlM.look{F:Nat->Prop}(h:PlM W F mb L)(elems:List (List Nm))(hl:∀x∈L,xE elems x.2)(n:Nm)(i:Nat):∃cs q,(Instr.lookup 142 (.map (some mb)) i false).run prog W= .ok (.agg cs) W/\au W F (aZ q) cs.toList/\xE elems q/\Gf elems q n=apU elems L n i:=by
 obtain⟨M,h1,h2⟩:=h;have hr:=qX (P:=prog) (zv:=aAY zCs) qJ underlying142 (λW=>by kernel_rfl) h1 (i:Int) false;simp only[b6,if_false] at hr;unfold apU
 cases hk:lkP L i with
 | none=>
   rw[(h2 i).1 hk] at hr;refine⟨_,aGa,hr,aVq W F,λe=>?_,aVr elems n⟩;cases e
 | some q=>
   obtain⟨cs,h3,h4⟩:=(h2 i).2 q hk;rw[h3] at hr;exact⟨_,q,hr,h4,hl _ (aRA hk),rfl⟩
theorem aVs(elems:List (List Nm))(L:List (Nat×aJ))(i:Nat)(a b:ByteArray)(g1 g2 g3 mb:Nat)(eA:Option Addr)(en ec:Nat)(w:World)(F:Nat->Prop)(hm:PlM w F mb L)(hF:∀q,F q->q<w.heap.size)(h1:w.heap[g1]?=Zc #[.map (some mb)] 142)(h2:w.heap[g2]?=Zc #[(eA,en,ec)] 30)(h3:w.heap[g3]?=Zc #[a,b] 23)
 (he:bM w (· <w) 1 (elems.map nU) eA en) (jR:en<6000000000000) (hl:∀x∈L,xE elems x.2):
 Rt 91 #[i,(g1,0),(g2,0),(g3,0)] w (apU elems L (a,b) i):=by
 obtain⟨cs,q,bG,bH,o8,azt⟩:=hm.look elems hl (a,b) i;obtain⟨v,hv⟩:=zF (apU elems L (a,b) i);rw[hv] at azt ⊢;have HC:=zH (aRk elems q cs.toList a b w eA en ec he jR (bH.keep λx hx=>⟨hF x hx,rfl⟩) o8);rw[azt] at HC;have c1:=aO h1;have c2:=aO h2;have c3:=dw h3;clear hm h1 h2 h3 he hl bH o8 azt hv hF;go_enter func91,ntmps91;go_wp2_with fail;refine HC.mono ?_;rintro e w2 ⟨rfl,ag⟩;go_wp2_with fail;go_ret;exact⟨rfl,ag⟩
theorem aVt(elems:List (List Nm))(L:List (Nat×aJ))(i:Nat)(a b:ByteArray)(g1 g2 g3 mb:Nat)(eA:Option Addr)(en ec:Nat)(w:World)(F:Nat->Prop)(hm:PlM w F mb L)(hF:∀q,F q->q<w.heap.size)(h1:w.heap[g1]?=Zc #[.map (some mb)] 142)(h2:w.heap[g2]?=Zc #[(eA,en,ec)] 30)(h3:w.heap[g3]?=Zc #[a,b] 23)
 (he:bM w (· <w) 1 (elems.map nU) eA en) (jR:en<6000000000000) (hl:∀x∈L,xE elems x.2):
 Rt 97 #[i,(g1,0),(g2,0),(g3,0)] w (apU elems L (a,b) i):=by
 obtain⟨cs,q,bG,bH,o8,azt⟩:=hm.look elems hl (a,b) i;obtain⟨v,hv⟩:=zF (apU elems L (a,b) i);rw[hv] at azt ⊢;have HC:=zH (aRk elems q cs.toList a b w eA en ec he jR (bH.keep λx hx=>⟨hF x hx,rfl⟩) o8);rw[azt] at HC;have c1:=aO h1;have c2:=aO h2;have c3:=dw h3;clear hm h1 h2 h3 he hl bH o8 azt hv hF;go_enter func97,ntmps97;go_wp2_with fail;refine HC.mono ?_;rintro e w2 ⟨rfl,ag⟩;go_wp2_with fail;go_ret;exact⟨rfl,ag⟩
section
variable {p:aJ} {elems:List (List Nm)} {L:List (Nat×aJ)} {a:zZ}
theorem aVV(hc:kN elems p=0)(w:List Nm):(TG p elems w).1.length<=dh p:=by
 unfold TG
 split
 ·exact Nat.zero_le _
 split
 ·exact Nat.zero_le _
 split
 ·exact Nat.zero_le _
 split
 ·exact Nat.zero_le _
 refine Ba _ _ ((qW _).imp λh=>Nat.ne_of_lt h) λi hi=>?_;obtain⟨s,-,hs⟩:=List.mem_flatMap.1 (wI.1 hi);unfold NF at hs;obtain⟨x,hx,rfl⟩:=List.mem_map.1 hs;have h:=aAX p 0 _ (af4 hc (List.mem_filter.1 hx).1);simpa using h.2
theorem aZH{wd:List Nm}{l:List Nat}{b:Bool}(h:TG p elems wd=(l,b,4))(s:Nat)(ws:List (Nat×List Nm)):gp p elems L a ((s,wd)::ws)=gp p elems L a ws:=by
 rw[gp,j6 (by rw[h])]
theorem aZI{wd:List Nm}{l:List Nat}{b:Bool}{e:Int}(h:TG p elems wd=(l,b,e))(h4:e≠4)(h0:e≠0)(s:Nat)(ws:List (Nat×List Nm)):gp p elems L a ((s,wd)::ws)=⟨false,0,0,[],aFg,e⟩:=by
 rw[gp,j5 (by rw[h];exact h4),j6 (by rw[h];exact h0),h]
theorem aZJ{wd:List Nm}{l:List Nat}{b:Bool}{c:Nat×Nat×Nm}(h:TG p elems wd=(l,b,0))(hc:acr elems L a l (List.range a.size)=c)(s:Nat)(ws:List (Nat×List Nm)):gp p elems L a ((s,wd)::ws)=⟨false,c.1,c.2.1,wd,c.2.2,0⟩:=by
 rw[gp,j5 (by rw[h];show ¬(0:Int)=4;decide),j5 (by rw[h];show ¬(0:Int)≠0;decide),h];simp only[hc]
theorem aZK{wd:List Nm}{l:List Nat}{b:Bool}(h:TG p elems wd=(l,b,0))(hc:acr elems L a l (List.range a.size)=none)(s:Nat)(ws:List (Nat×List Nm)):gp p elems L a ((s,wd)::ws)=gp p elems L a ws:=by
 rw[gp,j5 (by rw[h];show ¬(0:Int)=4;decide),j5 (by rw[h];show ¬(0:Int)≠0;decide),h];simp only[hc]
theorem aRJ{l:List Nat}{x:Nat}{n:Nm}(hs:iJ a x=n)(h:(ack elems L l n).length<=1)(xs:List Nat):acr elems L a l (x::xs)=acr elems L a l xs:=by
 rw[acr,hs]
 split
 ·rename_i he;rw[he] at h;simp at h
 rfl
theorem aVU{l:List Nat}{x i j:Nat}{n:Nm}{r:List Nat}(hs:iJ a x=n)(h:ack elems L l n=i::j::r)(xs:List Nat):acr elems L a l (x::xs)=some (i,j,n):=by
 rw[acr,hs,h]
end
theorem aRN{K:Nat}(h:i<K):(List.range K).drop i=i::(List.range K).drop (i+1):=by
 rw[nZ (by rw[List.length_range];exact h),List.getElem_range]
theorem aVX{base n c j:Nat}{A:Option Addr}{r:List Nat}(h:ax w base 3 1 aV (i::j::r) (A,n,c)):∃g,A=some ⟨g,0,none⟩/\1<n/\w.cell? ⟨g,0,none⟩=i/\w.cell? ⟨g,1,none⟩=j:=by
 rcases h.2 with ⟨-,h2⟩ | ⟨g,cap,cur,h1,-⟩
 ·simp at h2
 obtain⟨rfl,rfl,rfl⟩:=z19 h1;exact⟨g,rfl,zP,h.at1 (f:=λn:Nat=>n) (i:=0) rfl,h.at1 (f:=λn:Nat=>n) (i:=1) rfl⟩
theorem aVY(g n c:Nat)(h:1<n)(W:World):(Instr.indexAt 58 (g,0,n,c) (0:Int)).run prog W= .ok (g,0) W:=aFX underlying58 (λW=>by kernel_rfl) g n c 0 zO W
theorem aVZ(g n c:Nat)(h:1<n)(W:World):(Instr.indexAt 58 (g,0,n,c) (1:Int)).run prog W= .ok (g,1) W:=aFX underlying58 (λW=>by kernel_rfl) g n c 1 h W
theorem PlM.keepW(h:PlM w (· <w) mb L)(hb:Bw w W):PlM W (· <W) mb L:=by
 have hl:mb<w:=(by obtain⟨M,h1,-⟩:=h;exact h1.lt);exact h.keep (hb.block mb hl) λq hq=>⟨d4 hq hb.size,hb.block q hq⟩
theorem aVW(elems:List (List Nm))(L:List (Nat×aJ))(l:List Nat)(sa sb:ByteArray)(g1 g2 g3 mb:Nat)(eA:Option Addr)(en ec:Nat)(lA:Option Addr)(ln lc:Nat)(w:World)(hm:PlM w (· <w) mb L)(h1:w.heap[g1]?=Zc #[.map (some mb)] 142)(h2:w.heap[g2]?=Zc #[(eA,en,ec)] 30)(h3:w.heap[g3]?=Zc #[sa,sb] 23)
 (he:bM w (· <w) 1 (elems.map nU) eA en) (jR:en<6000000000000) (hl:∀x∈L,xE elems x.2) (aI:aY w (· <w) 1 aV l lA ln) (Zz:ln<1000000):
 Cl 90 #[(lA,ln,lc),.func (.func 91) #[] #[(g1,0),(g2,0),(g3,0)]] w λe w'=>∃v,e= .returned v/\ax w' w 3 1 aV (ack elems L l (sa,sb)) v/\Bw w w':=
 aNn g1 g2 g3 (apU elems L (sa,sb)) l lA ln lc w aI Zz λi _ W hb=>aVs elems L i sa sb g1 g2 g3 mb eA en ec W (· <W) (hm.keepW hb) (λ_ h=>h) (ae h1 hb) (ae h2 hb) (ae h3 hb) (he.keepW hb) jR hl
theorem aZL{w2:World}{r5 r4:Nat}{x y0 y1 y2 y3 y4:Value}(c0 c1 c2 c3 c4 b:Value)(h5:w2.heap[r5]?=Zc #[y0,y1,y2,y3,y4] 63)(h4:w2.heap[r4]?=Zc #[x] 4):
 ∃wf,(((((w2.setCell r5 c0).setCell (r5,1) c1).setCell (r5,2) c2).setCell (r5,3) c3).setCell (r5,4) c4).setCell r4 b=wf/\
  wf.heap[r4]?=(Zc #[b] 4)/\wf.heap[r5]?=(Zc #[c0,c1,c2,c3,c4] 63)/\wf.heap.size=w2.heap.size/\(∀q,q≠r4->q≠r5->wf.heap[q]?=w2.heap[q]?)/\∀M:Nat->Prop,M r4->M r5->Kept M w2 wf:=by
 have n45:r4≠r5:=iP h4 h5 zD;refine⟨_,rfl,bD (u:=x) ?_,?_,by simp[World.setCell],λq h1 h2=>?_,λM m4 m5=>?_⟩
 ·rw[gq n45,gq n45,gq n45,gq n45,gq n45];exact h4
 ·rw[gq (Ne.symm n45)];exact dM (i:=4) (v:=c4) (dM (i:=3) (v:=c3) (dM (i:=2) (v:=c2) (dM (i:=1) (v:=c1) (dM (i:=0) (v:=c0) h5))))
 ·rw[gq h1,gq h2,gq h2,gq h2,gq h2,gq h2]
 exact((((((Kept.refl M w2).setCell (p:=r5) (.inl m5) c0).setCell (p:=⟨r5,1,none⟩) (.inl m5) c1).setCell (p:=⟨r5,2,none⟩) (.inl m5) c2).setCell (p:=⟨r5,3,none⟩) (.inl m5) c3).setCell (p:=⟨r5,4,none⟩) (.inl m5) c4).setCell (p:=r4) (.inl m4) b
theorem aZM{p:aJ}{elems:List (List Nm)}(h:kN elems p=0):dh p<100000:=by
 have:=af6 (J5 h).2.2.1;omega
