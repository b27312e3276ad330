import Derived.Test.YtgmnnegfndpakaaGreatDoorOncE
import Derived.Test.YtgmnnegfndpakaaGreatDoorH18
set_option maxHeartbeats 20000000
set_option maxRecDepth 100000
namespace Go.Proofs.YtgmnnegfndpakaaGreatDoor
open Go.RowKit Go.Proofs.Tryz
variable{w w':World}{B bm base n c:Nat}{m:eQ}{A:Option Addr}{F T:Nat->Prop}{pl:List aU}{rs:List lK}{elems:List (List Nm)}{p:aJ}{v:Bool}
theorem arA:∀p:aJ,kR p=true->dh p<=40->ja p<=200->QW p:=by
 intro p
 induction p using aJ.ind with
 | h k mn mx el c pr args ih=>
   intro hg hn hc
   have ht:oz args=true->fD k=false->∀x∈args,Mc x:=λzV hk x hx=>by
    have Ec:=Rh zV hx;have CO:1+dZ args<=40:=(by rw[dh] at hn;exact hn);have xw:dh x<=40:=(by have:=Ri hx;omega)
    have Ar:kF args<=200:=by
     have:ja (.mk k mn mx el c pr args)=kF args:=(by unfold ja;show (if fD k=true then 1 else 0)+kF args=_;rw[hk];simp);omega
    have yC:lJ x<=200:=zT (IM hx) Ar;exact Pm x Ec xw yC (ih x hx Ec xw (zT (xJ x Ec) yC))
   rcases (rJ hg).2 with ⟨hk,_⟩ | ⟨hk,zV⟩ | ⟨hk,_,zV⟩
   ·exact aj7 _ hk
   ·exact amL _ hk zV hn hc (ht zV (by rw[hk];rfl))
   exact ae8 _ hk zV hn hc (ht zV (by rw[hk];rfl))
theorem amR(p:aJ)(hg:kR p=true)(hn:dh p<=40)(hc:lJ p<=200):Mc p:=
 Pm p hg hn hc (arA p hg hn (zT (xJ p hg) hc))
def Dl(n:Nat):List D:=[.val n]
def Jb(q:aU):List D:=aZ q.leaf++[.val (.int .i64 q.num),.sl 1 (q.follow.map Dl)]
def bV(b:Bool):Value:=b
def xx(l:List Nat):List (Int×Bool):=l.foldl (λ(m:List (Int×Bool)) (i:Nat)=>jh jL ((i:Int)+1) true m) []
def mO(w:World)(B bm:Nat)(m:eQ):Prop:=
 ∃eA en ec pA pn pc fA fn fc mb aA an ac,w.heap[bm]?=some (.cells #[.slice eA en ec,.slice pA pn pc,.slice fA fn fc,.map (some mb),m.empty,.slice aA an ac] 169)/\bm<B/\mb<B/\
  bM w (· <B) 1 (m.elems.map nU) eA en/\bM w (· <B) 14 (m.places.map Jb) pA pn/\bM w (· <B) 1 (m.first.map Dl) fA fn/\gQ w mb vM bV (xx m.last)/\bM w (· <B) 12 (m.all.map aZ) aA an/\
  (m.all=[]↔aA=none)/\en<6000000000000/\pn<6000000000000/\fn<6000000000000/\an<6000000000000
theorem mO.below(h:mO w B bm m)(hb:Below B w w'):mO w' B bm m:=by
 obtain⟨eA,en,ec,pA,pn,pc,fA,fn,fc,mb,aA,an,ac,h1,h2,h3,h4,h5,h6,h7,h8,h9⟩:=h;exact⟨eA,en,ec,pA,pn,pc,fA,fn,fc,mb,aA,an,ac,(hb.block bm h2).trans h1,h2,h3,h4.below hb,h5.below hb,h6.below hb,h7.keep (hb.block mb h3),h8.below hb,h9⟩
theorem mO.up{B':Nat}(h:mO w B bm m)(hB:B<=B'):mO w B' bm m:=by
 obtain⟨eA,en,ec,pA,pn,pc,fA,fn,fc,mb,aA,an,ac,h1,h2,h3,h4,h5,h6,h7,h8,h9⟩:=h;have up:∀b:Nat,b<B->b<B'/\w.heap[b]?=w.heap[b]?:=λb hb=>⟨zO,rfl⟩;exact⟨eA,en,ec,pA,pn,pc,fA,fn,fc,mb,aA,an,ac,h1,zO,zO,h4.keep up,h5.keep up,h6.keep up,h7,h8.keep up,h9⟩
theorem Xm(k j:Int)(v:Bool):∀l:List (Int×Bool),dP jL j (jh jL k v l)=if j=k then some v else dP jL j l
 | []=>by
   rw[jh,dP,dP];by_cases h:j=k
   ·subst h;simp[jL]
   simp[jL,h,dP]
 | (k',u)::l=>by
   rw[jh];by_cases h:k=k'
   ·subst h;rw[j6 (by simp[jL]),dP,dP];by_cases hj:j=k
    ·subst hj;simp[jL]
    simp[jL,hj]
   rw[j5 (by simpa[jL] using h),dP,dP,Xm k j v l];by_cases hj:j=k'
   ·subst hj;simp[jL,Ne.symm h]
   simp[jL,hj]
theorem akc(l:List Nat)(s:Nat):(dP jL (s:Int) (xx l)).getD false=l.any λi=>decide (i+1=s):=by
 have key:∀(l:List Nat) (m:List (Int×Bool)),(dP jL (s:Int) (l.foldl (λ(m:List (Int×Bool)) (i:Nat)=>jh jL ((i:Int)+1) true m) m)).getD false=((dP jL (s:Int) m).getD false||l.any λi=>decide (i+1=s)):=by
  intro l
  induction l with
  | nil=>intro m;simp
  | cons x l ih=>
    intro m;rw[JN,ih,Xm,List.any_cons];by_cases h:(s:Int)=(x:Int)+1
    ·have:x+1=s:=zO;rw[j6 h];simp[this]
    have:¬x+1=s:=zO;rw[j5 h];simp[this]
 rw[xx,key];rfl
theorem afc(l:List Nat)(x:Nat):xx (l++[x])=jh jL ((x:Int)+1) true (xx l):=by
 unfold xx;rw[List.foldl_append];rfl
theorem ax.Dl{l:List Nat}(h:ax w base 3 1 aV l (A,n,c))(hF:∀k,(Value.slice A n c).ownBlock=some k->F k):bM w F 1 (l.map Go.Proofs.YtgmnnegfndpakaaGreatDoor.Dl) A n:=by
 obtain⟨A',c',e,hr,-,-⟩:=h.rowAt jd zD F (λk hk=>hF k hk);simp only[i6] at e;obtain⟨rfl,rfl,-⟩:=e;refine⟨by rw[z8],λhp=>?_⟩;obtain⟨b,off,hA,hb,hc⟩:=hr.2 hp;refine⟨b,off,hA,hb,bK.Wv λi e he=>?_⟩;rw[z17] at he;obtain⟨x,hx,rfl⟩:=Option.map_eq_some_iff.1 he;exact⟨aV x,hc i x hx,by unfold Go.Proofs.YtgmnnegfndpakaaGreatDoor.Dl aV;rw[au.gu];exact⟨_,[],rfl,by rw[gI.rq],by rw[au.oL]⟩⟩
theorem au.app:∀{a b:List D} {ca cb:List Value},au w F a ca->au w F b cb->au w F (a++b) (ca++cb)
 | [],b,ca,cb,h,h2=>by rw[au.oL] at h;subst h;exact h2
 | d::a,b,ca,cb,h,h2=>by
   rw[au.gu] at h;obtain⟨v,r,rfl,h3,h4⟩:=h;rw[m7,m7,au.gu];exact⟨v,r++cb,rfl,h3,au.app h4 h2⟩
theorem gV.hd{hd hd':Hd}{pv:Value}(h:gV w base T bm hd pl pv rs)(hs:w'=w.heap.size)(hk:∀k,k≠bm->w'.heap[k]?=w.heap[k]?)(hb:w'.heap[bm]?=Zc (Yx hd' pv) 169):gV w' base T bm hd' pl pv rs where
 blk:=hb
 own:=h.own.bu λk fM=>hk k (h.Fv k fM).2
 len:=h.len
 IP:=h.IP
 Fv:=h.Fv
 row i q r hq hr:=by
  obtain⟨a,b,c,d⟩:=h.row i q r hq hr;exact⟨a,b.keep λk fM=>⟨fM,hk k (λe=>by have:=(h.inT bm h.IP).1;omega)⟩,c.bu λk fM=>hk k (d k fM).2.1,d⟩
 ZA:=h.ZA
 inT k fM:=by rw[hs];exact h.inT k fM
 le:=by rw[hs];exact h.le
mutual
theorem aai(n:Int):∀(p:aJ) (top:Bool),bU p.mn p.mx=true->bT n top p=true->p.kind≠5->kR p=true
 | .mk k mn mx el c pr args,top,hn,hf,hk=>by
   have CO:bU mn mx=true:=hn;have fM:k≠5:=hk;rw[kR,CO,Bool.true_and];rw[bT] at hf;by_cases h1:k=1
   ·rw[j6 h1] at hf;simp only[z7,gy] at hf;have:args=[]:=g9 hf.2;subst h1;subst this;rfl
   by_cases h2:k=2
   ·rw[j5 h1,j6 h2] at hf;simp only[z7,gy] at hf;have:args=[]:=g9 hf.1.1.1.2;subst h2;subst this;rfl
   by_cases h3:k=3
   ·rw[j5 h1,j5 h2,j6 h3] at hf;simp only[z7,gy] at hf;have:=Ro n args hf.2;subst h3;rw[this];simp
   by_cases h4:k=4
   ·rw[j5 h1,j5 h2,j5 h3,j6 h4] at hf;simp only[z7,gy] at hf;have:=Ro n args hf.2
    have dD:args.isEmpty=false:=by cases args with
     | nil=>simp at hf
     | cons a l=>rfl
    subst h4;rw[this,dD];simp
   rw[j5 h1,j5 h2,j5 h3,j5 h4,j5 fM] at hf;cases hf
theorem Ro(n:Int):∀l:List aJ,jZ n l=true->oz l=true
 | [],_=>by rw[oz]
 | p::l,h=>by
   rw[jZ] at h;simp only[z7] at h
   have hk:p.kind≠5:=by
    obtain⟨k,mn,mx,el,c,pr,args⟩:=p;rintro h5;have h5':k=5:=h5;subst h5';have:=h.1.2;rw[bT] at this;simp at this
   rw[oz,aai n p false h.1.1 h.1.2 hk,Ro n l h.2];rfl
end
theorem J5(h:kN elems p=0):elems.length<=60/\elems.any badL=false/\IG p=false/\bU p.mn p.mx=true/\bT elems.length true p=true/\(p.kind≠5->dC p<=200):=by
 unfold kN at h
 split at h
 ·cases h
 rename_i h1
 split at h
 ·cases h
 rename_i h2
 split at h
 ·cases h
 rename_i h3
 split at h
 ·cases h
 rename_i h4;have h3':(bU p.mn p.mx&&bT elems.length true p)=true:=(by simpa using h3);rw[z7] at h3'
 refine⟨zO,by simpa using λe=>h1 (.inr e),by simpa using h2,h3'.1,h3'.2,λhk=>by
  rcases Int.lt_or_le 200 (dC p) with h5 | h5
  ·exact absurd ⟨hk,h5⟩ h4
  exact h5⟩
theorem af6(h:IG p=false):dh p<=40:=by
 unfold IG at h;simp only[Bool.or_eq_false_iff,decide_eq_false_iff_not] at h;omega
theorem Vz(h:kN elems p=0)(hk:p.kind≠5):kR p=true/\dh p<=40/\lJ p<=200:=by
 obtain⟨-,-,h3,h4,h5,h6⟩:=J5 h;have hg:=aai _ p true h4 h5 hk;have hn:=af6 h3;refine⟨hg,hn,?_⟩;have h7:=h6 hk;rw[Au p hg hn] at h7;omega
theorem af7(h:kN elems p=0)(hk:p.kind=5):p.mn=1/\p.mx=1/\p.args≠[]/\p.args.length<=6/\∀x∈p.args,fD x.kind=true/\1<=x.mx/\x.mx<=3/\bU x.mn x.mx=true/\bT elems.length false x=true:=by
 obtain⟨-,-,h3,h4,h5,h6⟩:=J5 h;obtain⟨k,mn,mx,el,c,pr,args⟩:=p;have fM:k=5:=hk;subst fM;rw[bT] at h5;simp only[show ¬((5:Int)=1) by decide,show ¬((5:Int)=2) by decide,show ¬((5:Int)=3) by decide,show ¬((5:Int)=4) by decide,if_false,if_true,z7,gy] at h5;obtain⟨⟨⟨⟨⟨⟨-,h7⟩,h8⟩,h9⟩,AP⟩,h11⟩,h12⟩:=h5;refine⟨h7,h8,λe=>by have e':args=[]:=e;subst e';simp at h9,AP,λx hx=>?_⟩;have hx':x∈args:=hx;rw[List.all_eq_true] at h12;have h13:=h12 x hx';simp only[z7,gy] at h13
 have:∀l:List aJ,jZ elems.length l=true->x∈l->bU x.mn x.mx=true/\bT elems.length false x=true:=by
  intro l
  induction l with
  | nil=>intro _ h;simp at h
  | cons y l ih=>
    intro h hm;rw[jZ,z7,z7] at h
    rcases TT.1 hm with rfl | hm
    ·exact h.1
    exact ih h.2 hm
 exact⟨h13.1.1,h13.1.2,h13.2,this args h11 hx'⟩
theorem gV.rows{hd:Hd}(h:gV w base T bm hd pl (A,n,c) rs)(hF:tu pl):bM w (λk=>k<base\/(T k/\k≠bm)) 14 (pl.map Jb) A n:=by
 obtain⟨A',c',e,hr,-,-⟩:=h.own.rowAt Il zD (λk=>k<base\/(T k/\k≠bm)) (λk hk=>.inr (h.Fv k hk));simp only[i6] at e;obtain⟨rfl,rfl,-⟩:=e;have hlen:=h.len;refine⟨by rw[z8,<-hlen],λhp=>?_⟩;obtain⟨b,off,hA,hb,hc⟩:=hr.2 (by rw[<-hr.1];exact hp);refine⟨b,off,hA,hb,bK.Wv λi e he=>?_⟩;rw[z17] at he;obtain⟨q,hq,rfl⟩:=Option.map_eq_some_iff.1 he;have hi:i<pl.length:=(z4.1 hq).1;have hri:rs[i]?=rs[i]'zO:=z6 zO;obtain⟨a1,a2,a3,a4⟩:=h.row i q _ hq hri;refine⟨_,hc i _ hri,?_⟩;unfold Jb sH;refine au.app (a2.keep λk hk=>⟨.inl hk,rfl⟩) ?_;rw[au.gu];refine⟨_,_,rfl,by rw[gI.rq,a1],?_⟩;rw[au.gu];have aI:=ax.Dl (F:=λk=>k<base\/(T k/\k≠bm)) (show ax w base 3 1 aV q.follow ((rs[i]'zO).fA,(rs[i]'zO).fn,(rs[i]'zO).fc) from a3) (λk hk=>.inr ⟨(a4 k hk).1,(a4 k hk).2.1⟩);exact⟨_,[],rfl,aI.rep (by have:=hF i q hq;have:=aI.1;rw[z8] at this;omega),by rw[au.oL]⟩
theorem uK{g:Nat}{t:TypeId}{v0 v1 v2 v3 v4 v5:Value}(h:w.heap[g]?=Zc #[v0,v1,v2,v3,v4,v5] t):
 w.cell? g=v0/\w.cell? (g,1)=v1/\w.cell? (g,2)=v2/\w.cell? (g,3)=v3/\w.cell? (g,4)=v4/\w.cell? (g,5)=v5:=gG h
theorem akd(p:aJ)(elems:List (List Nm))(cs:List Value)(w:World)(eA:Option Addr)(en ec:Nat)(hr:au w (· <w) (aZ p) cs)(he:bM w (· <w) 1 (elems.map nU) eA en)(jR:en<6000000000000)(hc:kN elems p=0)(lq:p.kind=5):
 Cl 57 #[.agg cs.toArray,(eA,en,ec)] w λe w'=>∃bm,e= .returned (.pointer (some ⟨bm,0,none⟩))/\mO w' w' bm (eU elems p)/\Bw w w'/\w.heap.size<=bm/\w'.cell? ⟨bm,0,none⟩=(eA,en,ec):=by
 obtain⟨k,mn,mx,el,ck,ns,nl,sp,A1,n1,c1,A2,n2,c2,pr,A,n,c,rfl,hk,-,-,-,-,-,JC,aI⟩:=aW hr;rw[lq] at hk;subst hk;obtain⟨w1,bI,S1,S2,S3,nC,ai⟩:=rD w (Zc #[(5:Int),mn,mx,el,ck,ns,nl,sp,(A1,n1,c1),(A2,n2,c2),pr,(A,n,c)] 29) (.map #[] 0) (Zc #[(eA,en,ec),(),(),.map (some (w.heap.size+1)),false,()] 169);have e1:w1=w.heap.size+1+1+1:=(by rw[<-bI];simp);obtain⟨q0,m0,f5,gY,vC,lM,HE,HC⟩:=zK8 (aj S1) (uK S3) (k8 w1 (w.heap.size+1+1) 5 _ _ S3) (zH S2) (zH S3) (zH aI) (zH he) (zH hc);have HK:=zH lq;have L8:=@run_makeMap prog;clear S1 S2 S3 hr aI he hc lq;go_enter func57,ntmps57;go_wp2_with fail;go_ret;have hb:Bw w (w1.setCell (w.heap.size+1+1,5) (A,n,c)):=ai.setCell (by show w.heap.size<=w+1+1;omega) _;refine⟨_,rfl,?_,hb,zO,?h0⟩
 case h0=>
  have bg:(w1.setCell (w.heap.size+1+1,5) (A,n,c)).heap[w.heap.size+1+1]?=Zc #[(eA,en,ec),(),(),.map (some (w.heap.size+1)),false,(A,n,c)] 169:=(by rw[dM vC];rfl);exact(uK bg).1
 have bY:(w1.setCell (w.heap.size+1+1,5) (A,n,c)).heap.size=w1.heap.size:=(by simp[World.setCell]);have hBP:eU elems p=⟨elems,[],[],[],false,p.args⟩:=(by unfold eU;rw[j6 HK.out]);rw[hBP,bY];have up:∀b:Nat,b<w->b<w1/\(w1.setCell (w.heap.size+1+1,5) (A,n,c)).heap[b]?=w.heap[b]?:=λb h=>⟨zO,hb.block b h⟩;refine⟨eA,en,ec,none,0,0,none,0,0,w.heap.size+1,A,n,c,?_,zO,zO,HE.keep up,bM.nil _ _ _ _,bM.nil _ _ _ _,?_,lM.keep up,?_,jR,zO,zO,JC⟩
 ·rw[dM vC];rfl
 ·exact dE zO gY
 have dD:=(af7 HC HK).2.2.1;have hlen:=lM.1;rw[z8] at hlen
 have kD:0<n:=by
  rw[hlen];exact List.length_pos_iff.2 dD
 obtain⟨b,off,hA,-⟩:=lM.2 kD;rw[hA];simp[dD]
theorem ake(p:aJ)(elems:List (List Nm))(cs:List Value)(w:World)(eA:Option Addr)(en ec:Nat)(hr:au w (· <w) (aZ p) cs)(he:bM w (· <w) 1 (elems.map nU) eA en)(jR:en<6000000000000)(hc:kN elems p=0)(lq:p.kind≠5):
 Cl 57 #[.agg cs.toArray,(eA,en,ec)] w λe w'=>∃bm,e= .returned (.pointer (some ⟨bm,0,none⟩))/\mO w' w' bm (eU elems p)/\Bw w w'/\w.heap.size<=bm/\w'.cell? ⟨bm,0,none⟩=(eA,en,ec):=by
 obtain⟨hg,ahB,apS⟩:=Vz hc lq;have hT:=amR p hg ahB apS;obtain⟨k,mn,mx,el,ck,ns,nl,sp,A1,n1,c1,A2,n2,c2,pr,A,n,c,rfl,hk,-,-,-,-,-,JC,aI⟩:=aW hr;rw[hk] at lq;have jV:(k==5)=false:=(by simpa using lq);obtain⟨w1,bI,S1,S2,S3,nC,ai⟩:=rD w (Zc #[k,mn,mx,el,ck,ns,nl,sp,(A1,n1,c1),(A2,n2,c2),pr,(A,n,c)] 29) (.map #[] 0) (Zc #[(eA,en,ec),(),(),.map (some (w.heap.size+1)),false,()] 169);have e1:w1=w.heap.size+1+1+1:=(by rw[<-bI];simp);have q0:=aj S1;obtain⟨tm,JZ⟩:=zF (fV p 0 []);have hBP:eU elems p=⟨elems,tm.1,tm.2.first,tm.2.last,tm.2.empty,[]⟩:=(by unfold eU;rw[j5 (by rw[hk];exact lq),JZ]);have kV:=xI hg ahB 0 [];have bP:=Ez hg ahB apS 0 [];rw[JZ] at kV bP
 have hM1:gV w1 w (λq=>q=w+1+1) (w.heap.size+1+1) ⟨(eA,en,ec),(),.map (some (w.heap.size+1)),false,()⟩ [] () []:=
  ⟨S3,ax.nil _ _ _ _ _,rfl,rfl,λq h=>(by cases h),λi q r h=>(by simp at h),λi j r r' q _ h=>(by simp at h),λq h=>by omega,zO⟩
 have HCT:Hid (Cl 124 #[(w.heap.size+1+1,0),.agg (o5 k mn mx el ck ns nl sp A1 n1 c1 A2 n2 c2 pr A n c),(0:Int)] w1 (wP w1 w (w.heap.size+1+1) (λq=>q=w+1+1) ⟨(eA,en,ec),(),.map (some (w.heap.size+1)),false,()⟩ tm)):=zH (by
  have h:=hT 0 _ w1 w (w.heap.size+1+1) _ _ [] _ [] hM1 (hr.below ai) (λi q h=>(by simp at h)) zS1 (by rw[d9];exact Qe ahB zD)
  rw[JZ] at h;exact h)
 obtain⟨aQ,gY,HE,BV,xy,AO,L8⟩:=zK7 (zH S1) (zH S2) (zH he) (zH hBP) (zH kV) (zH bP) (@run_makeMap prog);clear S1 S2 S3 hr aI he hc lq hk hBP hM1 JZ hT kV bP;go_enter func57,ntmps57;go_wp2_with fail;refine HCT.mono ?_;rintro e w2 ⟨T2,JV,JW,vf,vl,rfl,hM2,CB,BJ,uA,Aa⟩;obtain⟨be,jm⟩:=zF tm.2.empty;rw[jm];obtain⟨g1,lV⟩:=zF tm.2.first.length;obtain⟨g2,qo⟩:=zF tm.2.last.length;have aIc:g2<=1000:=(by rw[<-qo];exact zT AO.ll zO);obtain⟨E1,f1,rfl⟩:=Aa.f.form;obtain⟨E2,f2,rfl⟩:=Aa.l.form;rw[lV,qo] at Aa ⊢;obtain⟨P2,p2c,oC⟩:=hM2.own.form;obtain⟨p2n,Py⟩:=zF JW.length;rw[Py] at oC;subst oC;have s2:w1.heap.size<=w2:=uA.size;obtain⟨w3,vU,S3,su,az⟩:=af w2 (Zc #[(E1,g1,f1),(E2,g2,f2),be] 171);have e3:w3.heap.size=w2+1:=(by rw[<-vU];simp);have O9:=hM2.below az;have yP:w3.heap[w.heap.size+1+1]?=Zc #[(eA,en,ec),(P2,p2n,p2c),(),.map (some (w.heap.size+1)),false,()] 169:=O9.blk;have m0:=uK yP;have f2':=k8 w3 (w.heap.size+1+1) 2 _ _ yP;have f4':=k8 w3 (w.heap.size+1+1) 4 _ _ yP;obtain⟨w4,vV⟩:=zF (w3.setCell (w.heap.size+1+1,2) (E1,g1,f1));obtain⟨w5,pq⟩:=zF (w4.setCell (w.heap.size+1+1,4) be);have b4:w4.heap[w.heap.size+1+1]?=Zc #[(eA,en,ec),(P2,p2n,p2c),(E1,g1,f1),.map (some (w.heap.size+1)),false,()] 169:=(by rw[<-vV,dM yP];rfl);have b5:w5.heap[w.heap.size+1+1]?=Zc #[(eA,en,ec),(P2,p2n,p2c),(E1,g1,f1),.map (some (w.heap.size+1)),be,()] 169:=(by rw[<-pq,dM b4];rfl);have e5:w5.heap.size=w3:=(by rw[<-pq,<-vV];simp[World.setCell]);have amS:∀q,q≠w.heap.size+1+1->w5.heap[q]?=w3.heap[q]?:=λq h=>(by rw[<-pq,<-vV,b7 _ _ _ _ h,b7 _ _ _ _ h]);have as3:∀q,q≠w.heap.size+1+1->w4.heap[q]?=w3.heap[q]?:=λq h=>(by rw[<-vV,b7 _ _ _ _ h]);have S4:=(as3 _ zO).trans S3;have S5:=(amS _ zO).trans S3;obtain⟨x0,x1,x2⟩:=dJ S3;obtain⟨y0,y1,y2⟩:=dJ S4;obtain⟨z0,n0,o0,aBC⟩:=zK4 (dJ S5) (uK b4) (uK b5) (k8 w4 (w.heap.size+1+1) 4 _ _ b4);have JY:gV w5 w T2 (w.heap.size+1+1) ⟨(eA,en,ec),(E1,g1,f1),.map (some (w.heap.size+1)),be,()⟩ tm.1 (P2,p2n,p2c) JW:=O9.hd e5 amS b5
 have VA:Kept (λq=>q=w.heap.size+1+1) w2 w5:=by
  rw[<-pq,<-vV];have k1:Kept (λq=>q=w+1+1) w2 w3:=Qh az;exact(k1.setCell (p:=⟨w.heap.size+1+1,2,none⟩) (.inl rfl) _).setCell (p:=⟨w.heap.size+1+1,4,none⟩) (.inl rfl) _
 have hS5:iT w5 w (λq=>w1<=q/\¬T2 q/\q<w2) tm.2 (E1,g1,f1) (E2,g2,f2):=Aa.keep λq aN hG=>⟨⟨hG.1,hG.2,aN⟩,VA.block q aN (λe=>by have:=hG.1;omega)⟩;have BX:gQ w5 (w.heap.size+1) vM bV (xx []):=(VA.block _ zO zO).trans ((uA.block _ zO zO).trans gY);have EY:Hid (w3.drew.cell? w2=(E1,g1,f1)/\w3.drew.cell? (w2,1)=(E2,g2,f2)/\w3.drew.cell? (w2,2)=be):=zH ⟨x0,x1,x2⟩;obtain⟨Dj,vW,G7,BU,qZ,uV,Rq,pO⟩:=zJ8 JY hS5 BX b5 BJ uA VA jm;obtain⟨xC,HT5,HW4,HW5⟩:=zJ4 qo S5 vV pq;clear hM2 O9 JY hS5 Aa BX b4 b5 CB BJ uA VA jm lV qo S3 S4 S5 as3 amS yP Py vV pq q0;go_wp2_with fail;refine ah.start (λW=>W.cell? w2=(E1,g1,f1)/\W.cell? (w2,1)=(E2,g2,f2)/\W.cell? (w2,2)=be) 11 zK ?_;have hHeld:=EY.out;refine ah.tk 0 hHeld ?_;refine ah.tk 1 hHeld ?_;refine ah.tk 2 hHeld ?_;refine ah.tk 3 hHeld ?_;refine ah.tk 4 hHeld ?_;refine ah.tk 5 hHeld ?_;refine ah.tk 6 hHeld ?_;refine ah.tk 7 hHeld ?_;refine ah.on 8 λK hK=>?_;go_simp;have vV:=HW4.out;refine di hK (λ_=>by rw[vV];exact⟨y0,y1,y2⟩) ?_;clear hK K;rw[vV];clear vV hHeld;have hHeld:w4.cell? w2=(E1,g1,f1)/\w4.cell? (w2,1)=(E2,g2,f2)/\w4.cell? (w2,2)=be:=⟨y0,y1,y2⟩;refine ah.ta 9 hHeld ?_;refine ah.tk 10 hHeld ?_;refine ah.oe 11 ?_;refine ah.dn ?_;rw[HW5.out];clear hHeld x0 x1 x2 y0 y1 y2 m0 n0 f2' f4' aBC;go_wp2_with fail
 go_loopw [38] (λsi wr=>∃i:Nat,i<=g2/\si= i/\gQ wr (w.heap.size+1) vM bV (xx (tm.2.last.take i))/\Kept (λq=>q=w+1) w5 wr)
  (λsi _=>g2 - (intOf si).toNat)
 case atStart=>exact⟨0,zO,rfl,G7,(Kept.refl _ _).drew⟩
 obtain⟨i,hi,rfl,BZ,o9⟩:=hrel;have c5:=bF BU o9 zO;clear o0 z0;have o0:=uK c5;by_cases aN:i<g2
 ·have gJ:=zT1 (i<g2);have AU:=vW.ahn (wr:=wr) (λq amT hG=>o9.block q amT zO);obtain⟨b,off,x,HX,jw,dO⟩:=AU.nat aN f2
  have Cb:x<1000000:=by
   have h1:=(xy.ok.fF.last x (SK HX)).2;have h2:=AO.len;have h3:([]:List aU).length=0:=rfl;rw[h3] at h2;omega
  have hwx:IntKind.i64.wrap ((x:Int)+1)=(x:Int)+1:=zS3;have aId:wrap64 ((x:Int)+1)=(x:Int)+1:=CU zO zO;obtain⟨HMI,Eg⟩:=zJ2 BZ o9
  have as4:xx (tm.2.last.take (i+1))=jh jL ((x:Int)+1) true (xx (tm.2.last.take i)):=by
   rw[List.take_add_one,HX.out];exact afc _ _
  have aBD:=zH as4;clear BZ o9 AU as4 Cb c5
  go_wp2_with (with_reducible refine Lc rfl (.tmp 45) (.tmp 47) (.const true) 122 rfl (et:=4) (val:=bV) qJ underlying122 (w.heap.size+1) _ rfl HMI.out ((x:Int)+1) rfl true rfl ?_;intro oH j1 j2 j3 j4;have HJ1:=zH j1;have HJ4:=zH j4;clear j1 j2 j3 j4)
  go_roundw
  case rel=>exact⟨i+1,zO,by go_num,by rw[aBD.out];exact HJ1,Eg.trans HJ4⟩
  simp[intOf];omega
 obtain rfl:i=g2:=zO;obtain⟨gJ,HMI,Eg,G6⟩:=zK4 (zT2 (i<i)) (zH BZ) (zH o9) (zH c5);clear BZ o9 c5;go_wp2_with fail;go_ret;have s35:w2.heap.size<=w5:=Rq.size;have s5r:w5.heap.size<=wr:=Eg.size
 have iO:∀q,q<w.heap.size->wr.heap[q]?=w.heap[q]?:=λq h=>by
  rw[Eg.block q zO zO,Rq.block q zO zO,uV.block q zO zO,ai.block q h]
 have hb:Bw w wr:=⟨Eg.os.trans (Rq.os.trans (uV.os.trans ai.os)),Eg.tape.trans (Rq.tape.trans (uV.tape.trans ai.tape)),Eg.output.trans (Rq.output.trans (uV.output.trans ai.output)),zO,iO⟩;refine⟨_,rfl,?_,hb,zO,(uK G6).1⟩;rw[BV.out]
 have rY:∀q,T2 q->q≠w.heap.size+1:=λq h e=>by
  rcases qZ q h with h | h
  ·have h':q=w.heap.size+1+1:=h;omega
  have h':w1.heap.size<=q:=h;omega
 have uU:tu tm.1:=(show tu ([]:List aU) from λi q h=>(by simp at h)).made xy AO zO
 have Az:=(Dj.rows uU).keep (F':=(· <wr)) (w':=wr) λq hq=>by
  rcases hq with hq | ⟨hq,-⟩
  ·exact⟨zO,Eg.block q zO zO⟩
  have:=(Dj.inT q hq).2;exact⟨zO,Eg.block q this (rY q hq)⟩
 have hfi:=ax.Dl (F:=λq=>w1.heap.size<=q/\¬T2 q/\q<w2.heap.size) (show ax w5 w 3 1 aV tm.2.first (E1,g1,f1) from vW.f) vW.gf;have as6:=hfi.keep (F':=(· <wr)) (w':=wr) λq hq=>⟨zO,Eg.block q zO zO⟩;have Py:=Az.1;have IU:=as6.1;rw[z8] at Py IU;have Zz:=AO.len;have uw:=AO.fl;have h0:([]:List aU).length=0:=rfl;rw[h0] at Zz;have as7:=HMI.out;rw[<-xC.out,List.take_length] at as7;refine⟨eA,en,ec,P2,p2n,p2c,E1,g1,f1,w.heap.size+1,none,0,0,?_,zO,zO,HE.keep λq h=>⟨zO,iO q h⟩,Az,as6,as7,bM.nil _ _ _ _,zP,jR,zO,zO,zO⟩;show wr.heap[w.heap.size+1+1]?=Zc #[(eA,en,ec),(P2,p2n,p2c),(E1,g1,f1),.map (some (w.heap.size+1)),tm.2.empty,()] 169;rw[pO.out];exact G6
theorem FP(p:aJ)(elems:List (List Nm))(cs:List Value)(w:World)(eA:Option Addr)(en ec:Nat)(hr:au w (· <w) (aZ p) cs)(he:bM w (· <w) 1 (elems.map nU) eA en)(jR:en<6000000000000)(hc:kN elems p=0):
 Cl 57 #[.agg cs.toArray,(eA,en,ec)] w λe w'=>∃bm,e= .returned (.pointer (some ⟨bm,0,none⟩))/\mO w' w' bm (eU elems p)/\Bw w w'/\w.heap.size<=bm/\w'.cell? ⟨bm,0,none⟩=(eA,en,ec):=by
 by_cases hk:p.kind=5
 ·exact akd p elems cs w eA en ec hr he jR hc hk
 exact ake p elems cs w eA en ec hr he jR hc hk
theorem amU(n c:Nat)(W:World):(binOp .eql 27 (.slice none n c) ()).run prog W= .ok true W:=by kernel_rfl
theorem akg(b o n c:Nat)(W:World):(binOp .eql 27 (b,o,n,c) ()).run prog W= .ok false W:=by kernel_rfl
theorem akh(b o n c:Nat)(W:World):(binOp .neq 27 (b,o,n,c) ()).run prog W= .ok true W:=by kernel_rfl
theorem amV(n c:Nat)(W:World):(binOp .neq 27 (.slice none n c) ()).run prog W= .ok false W:=by kernel_rfl
def xE(elems:List (List Nm))(p:aJ):Prop:=(p.kind=1->0<=p.el/\p.el<elems.length)
theorem Xn(a b:ByteArray)(l:List Nm)(A:Option Addr)(n c:Nat)(w:World)(F:Nat->Prop)(h:aY w F 2 dK l A n)(hn:n<6000000000000)(hv:ru l a b=v):
 Rt 129 #[(A,n,c),.agg #[a,b]] w v:=by
 subst hv;exact J7 a b l A n c w F h hn
theorem afd(m:eQ)(B bm:Nat)(p:aJ)(cs:List Value)(a b:ByteArray)(w:World)(hM:mO w B bm m)(hB:B<=w)(hr:au w (· <B) (aZ p) cs)(hl:xE m.elems p):
 Rt 132 #[(bm,0),.agg cs.toArray,.agg #[a,b]] w (Gf m.elems p (a,b)):=by
 obtain⟨eA,en,ec,pA,pn,pU,fA,fn,fc,mb,aA,an,ac,uD,GH,-,hE,-,-,-,-,-,jR,-⟩:=hM;obtain⟨k,mn,mx,el,ck,ns,nl,sp,A1,n1,c1,A2,n2,c2,pr,A,n,c,rfl,hk,-,-,lT,-,eH,-⟩:=aW hr;obtain⟨w1,bI,S1,S2,nC,ai⟩:=zP2 w k mn mx el ck ns nl sp A1 n1 c1 A2 n2 c2 pr A n c (Zc #[a,b] 23);have e1:w1=w.heap.size+1+1:=(by rw[<-bI];simp);obtain⟨q0,q1,q2,q3,q4,q5,q6,q7,q8,q9,aF,aG⟩:=aj S1;obtain⟨r0,r1⟩:=dw S2;have Ru:w1.heap[bm]?=Zc #[(eA,en,ec),(pA,pn,pU),(fA,fn,fc),.map (some mb),m.empty,(aA,an,ac)] 169:=(ai.block bm zO).trans uD;obtain⟨m0,m1,m2,m3,m4,m5⟩:=uK Ru;obtain⟨aQ,gY⟩:=zJ2 S1 S2;obtain⟨v,hv⟩:=zF (Gf m.elems p (a,b));rw[hv];have HV:=zH hv;clear S1 S2 hv uD Ru;by_cases eu:k=1
 ·subst eu;obtain⟨h0,h1⟩:=hl hk;rw[lT] at h0 h1;obtain⟨i,rfl⟩:∃i:Nat,el=i:=⟨el.toNat,zO⟩;have hlen:=hE.1;rw[z8] at hlen;have hi:i<en:=zO;clear hlen;obtain⟨ob,off,x,Ax,nx,cx,HX,hxn,aI,GI,dO⟩:=(hE.below (ai.mono hB)).Uk hi ec;have HR:Hid (aY w1 (· <B) 2 dK x Ax nx):=zH aI
  have hVV:ru x a b=v:=by
   have h:=HV.out;unfold Gf elemAt at h;rw[hk,j6 rfl,lT,Int.toNat_natCast,HX.out] at h;rw[<-h];show ru x a b=(List.any x (eqN (a,b)));clear h HV HX aI hxn HR GI
   induction x with
   | nil=>rfl
   | cons y x ih=>rw[ru,List.any_cons,ih];unfold eqN;rw[NL y.1,NL y.2]
  have QA:=zH hVV;have hk0:((1:Int)==1)=true:=rfl;clear aI hVV hl hE eH hr h0 h1;go_enter func132,ntmps132;go_wp2_with fail;obtain⟨sm0,sq3,sr0,sr1,sc1⟩:=zK5 (Since.cell m0) (Since.cell q3) (Since.cell r0) (Since.cell r1) (Since.cell GI);have HRS:Hid (∀p:Since w1,aY p.wld (· <B) 2 dK x Ax nx):=zH λp=>HR.below (p.below.mono zO);refine yh zK zK ?_
  repeat (quiet_step (first
   | (go_at_call_of 129 (Value.slice Ax nx cx);exact Eo (Xn a b x Ax nx cx _ _ (HRS _) zO QA))))
  refine wpQuiet_nil ?_;intro wq hq;have Xo:=Ap hq;clear hq;go_wp2_with fail;go_ret;exact⟨rfl,ai.seq Xo⟩
 have hk0:(k==1)=false:=(by simpa using eu);obtain⟨x1,Cb⟩:=zF ((xg (xO p.cls) (jJ a b) (pK p.cls a b)).1);obtain⟨x2,FI⟩:=zF ((xg (xO p.cls) (jJ a b) (pK p.cls a b)).2)
 have DV:(x1&&decide (x2=0))=v:=by
  have h:=HV.out;unfold Gf at h;rw[hk,j5 eu] at h;rw[<-Cb,<-FI];exact h
 have QA:=zH DV
 have HH:Hid (Rt 155 #[.agg #[ck,ns,nl,sp,(A1,n1,c1),(A2,n2,c2)],.agg #[a,b]] w1 (.tuple #[x1,x2])):=zH (by
  have h:=arn a b p.cls _ w1 _ (eH.keep (F':=λ_=>True) λq hq _=>⟨trivial,ai.block q zO⟩)
  rw[Cb,FI] at h;exact h)
 clear DV Cb FI hl hE eH hr hk;go_enter func132,ntmps132;go_wp2_with fail;refine HH.mono ?_;rintro e w2 ⟨rfl,ag⟩;cases x1
 all_goals
  by_cases hx:x2=0
  all_goals
   have hxx:(x2==0)=decide (x2=0):=rfl;have HX:=zH hx;go_wp2_with fail;go_ret;exact⟨by rw[<-QA.out];simp[HX.out],ai.seq ag⟩
theorem aEC(a b c d:ByteArray):eqN (a,b) (c,d)=(eqS c a&&eqS d b):=by
 unfold eqN;rw[m9,z7,z7,iV,iV,iV,iV];exact⟨λh=>⟨h.1.symm,h.2.symm⟩,λh=>⟨h.1.symm,h.2.symm⟩⟩
theorem azK{l:List Nm}{i:Nat}{y:Nm}{f:Nm->Bool}(h:l[i]?=y):(l.drop i).any f=(f y||(l.drop (i+1)).any f):=by
 obtain⟨hi,rfl⟩:=z4.1 h;rw[nZ hi,List.any_cons]
theorem aua(l:List Nm)(A:Option Addr)(n c:Nat)(x1 x2:ByteArray)(w:World)(F:Nat->Prop)(bQ:aY w F 2 dK l A n)(hn:n<6000000000000):
 Rt 93 #[(A,n,c),.agg #[x1,x2]] w (l.any (eqN (x1,x2))):=by
 have aI:=bQ.here Iu;obtain⟨w1,bI,S1,nC,ai⟩:=af w (Zc #[x1,x2] 23);obtain⟨R,hR⟩:=zF (l.any (eqN (x1,x2)));rw[hR];obtain⟨HR,aQ,lM,nK⟩:=zJ4 hR S1 aI ai;clear hR S1 aI bQ ai;go_enter func93,ntmps93;go_wp2_with fail
 go_loopw [5] (λs5 W=>∃i:Nat,i<=n/\s5= i/\Hid ((l.drop i).any (eqN (x1,x2))=R)/\Bw w1 W) (λs5 _=>n - (intOf s5).toNat)
 case atStart=>exact⟨0,zO,rfl,zH (by rw[List.drop_zero];exact HR),j9 _ _⟩
 obtain⟨i,hi,rfl,HA,dU⟩:=hrel;have aH:Bw w wr:=nK.seq dU;have d0:=dw (ae aQ dU);by_cases aN:i<n
 ·have gJ:=zT1 (i<n);obtain⟨b,off,y1,y2,HX,p0,p1,dO⟩:=(lM.below aH).name aN c;obtain⟨bv,jS⟩:=zF ((eqS y1 x1&&eqS y2 x2));have hq:∀W,(binOp .eql 23 (.agg #[y1,y2]) (.agg #[x1,x2])).run prog W= .ok bv W:=λW=>(by rw[nO,jS]);have bZ:=azK (f:=eqN (x1,x2)) HX;rw[aEC,jS,HA.out] at bZ;obtain⟨sV,HBR,nG⟩:=zJ3 bZ dU aH;clear jS bZ HA dU aH;cases bv
  ·go_wp2_with fail
   go_quiet (fail)
   go_wp2_with fail;go_roundw
   case rel=>exact⟨i+1,zO,by go_num,zH (by rw[sV.out,Bool.false_or]),HBR.drewN _⟩
   simp[intOf];omega
  go_wp2_with fail
  go_quiet (fail)
  go_wp2_with fail;go_ret;exact⟨by rw[sV.out];rfl,nG.drewN _⟩
 obtain rfl:i=n:=zO;have gJ:=zT2 (i<i);go_wp2_with fail;go_ret;refine⟨?_,aH⟩;rw[<-HA.out,List.drop_of_length_le (by rw[lM.1];exact zR _)];rfl
theorem azL(l:List Nm)(A:Option Addr)(n c:Nat)(a b:ByteArray)(w:World)(F:Nat->Prop)(h:aY w F 2 dK l A n)(hn:n<6000000000000)(hv:l.any (eqN (a,b))=v):
 Rt 93 #[(A,n,c),.agg #[a,b]] w v:=by
 subst hv;exact aua l A n c a b w F h hn
theorem aED(e:Int)(v i:Bool):((xg e v i).1&&decide ((xg e v i).2=0))=(xg e v i).1:=by
 unfold xg
 split
 ·split
  ·simp
  simp
 simp
theorem aEE(elems:List (List Nm))(p:aJ)(cs:List Value)(eA:Option Addr)(en ec:Nat)(a b:ByteArray)(w:World)(hr:au w (· <w) (aZ p) cs)(hE:bM w (· <w) 1 (elems.map nU) eA en)(hl:xE elems p):
 Rt 36 #[.agg cs.toArray,(eA,en,ec),.agg #[a,b]] w (Gf elems p (a,b)):=by
 obtain⟨k,mn,mx,el,ck,ns,nl,sp,A1,n1,c1,A2,n2,c2,pr,A0,n0,c0,rfl,hk,-,-,lT,-,eH,-⟩:=aW hr;obtain⟨w1,bI,S1,S2,nC,ai⟩:=zP2 w k mn mx el ck ns nl sp A1 n1 c1 A2 n2 c2 pr A0 n0 c0 (Zc #[a,b] 23);have e1:w1=w.heap.size+1+1:=(by rw[<-bI];simp);obtain⟨q0,q1,q2,q3,q4,q5,q6,q7,q8,q9,aF,aG⟩:=aj S1;obtain⟨r0,r1⟩:=dw S2;obtain⟨v,hv⟩:=zF (Gf elems p (a,b));rw[hv];have HV:=zH hv;clear S1 S2 hv;by_cases eu:k=1
 ·subst eu;obtain⟨h0,h1⟩:=hl hk;rw[lT] at h0 h1;obtain⟨i,rfl⟩:∃i:Nat,el=i:=⟨el.toNat,zO⟩;have hlen:=hE.1;rw[z8] at hlen;have hi:i<en:=zO;clear hlen;obtain⟨ob,off,x,Ax,nx,cx,HX,hxn,aI,GI,dO⟩:=(hE.below ai).Uk hi ec;have HR:Hid (aY w1 (· <w) 2 dK x Ax nx):=zH aI
  have hVV:x.any (eqN (a,b))=v:=by
   have h:=HV.out;unfold Gf elemAt at h;rw[hk,j6 rfl,lT,Int.toNat_natCast,HX.out] at h;exact h
  have QA:=zH hVV;have hk0:decide ((1:Int)=1)=true:=rfl;clear aI hVV hl hE eH hr h0 h1;go_enter func36,ntmps36;go_wp2_with fail;obtain⟨sq3,sr0,sr1,sc1⟩:=zK4 (Since.cell q3) (Since.cell r0) (Since.cell r1) (Since.cell GI);have HRS:Hid (∀p:Since w1,aY p.wld (· <w) 2 dK x Ax nx):=zH λp=>HR.below (p.below.mono zO);refine yh zK zK ?_
  repeat (quiet_step (first
   | (go_at_call_of 93 (Value.slice Ax nx cx);exact Eo (azL x Ax nx cx a b _ _ (HRS _) zO QA))))
  refine wpQuiet_nil ?_;intro wq hq;have Xo:=Ap hq;clear hq;go_wp2_with fail;go_ret;exact⟨rfl,ai.seq Xo⟩
 have hk0:decide (k=1)=false:=(by simpa using eu);obtain⟨x1,Cb⟩:=zF ((xg (jF p.cls) (jJ a b) (vk p.cls a b)).1);obtain⟨x2,FI⟩:=zF ((xg (jF p.cls) (jJ a b) (vk p.cls a b)).2)
 have DV:x1=v:=by
  have h:=HV.out;unfold Gf at h;rw[hk,j5 eu,aED,ajU,Cb] at h;exact h
 subst DV
 have HH:Hid (Rt 94 #[.agg #[ck,ns,nl,sp,(A1,n1,c1),(A2,n2,c2)],.agg #[a,b]] w1 (.tuple #[x1,x2])):=zH (by
  have h:=axK a b p.cls _ w1 _ (eH.keep (F':=λ_=>True) λq hq _=>⟨trivial,ai.block q zO⟩)
  rw[Cb,FI] at h;exact h)
 clear Cb FI hl hE eH hr hk;go_enter func36,ntmps36;go_wp2_with fail;refine HH.mono ?_;rintro e w2 ⟨rfl,ag⟩;go_wp2_with fail;go_ret;exact⟨rfl,ai.seq ag⟩
