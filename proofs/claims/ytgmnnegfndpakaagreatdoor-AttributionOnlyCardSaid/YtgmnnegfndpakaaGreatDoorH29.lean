import Derived.Test.YtgmnnegfndpakaaGreatDoorH28
set_option maxHeartbeats 20000000
set_option maxRecDepth 100000
namespace Go.Proofs.YtgmnnegfndpakaaGreatDoor
open Go.RowKit Go.Proofs.Tryz
variable{elems:List (List Nm)}{p:aJ}{m:eQ}{s base g t c n N k j g8:Nat}{y x:Stp}{a:Act}{w w1 W:World}{T R:Nat->Prop}{back:List (Nat×List Nat)}{A:Option Addr}{v' v:Value}{l L out stk:List Nat}{F:Fence}{P:Program}{Q:Exit->Act->World->Prop}{st:List Nat×List Nat}
def oJ(elems:List (List Nm))(lim:Nat)(pl:List aU):Prop:=∀(i:Nat) (l:LI),sG pl i=l->xE elems l.2/\l.1<lim
section
variable {elems:List (List Nm)} {lim:Nat}
theorem oJ.join{pl:List aU}(h:oJ elems lim pl)(x y:dR):oJ elems lim (dB pl x y):=λi l hl=>h i l (by rwa [kZ] at hl)
theorem oJ.kY{once:List aU->List aU×dR}(ho:∀pl,oJ elems lim pl->oJ elems lim (once pl).1):∀(n:Nat) (pl:List aU) (out:dR),oJ elems lim pl->oJ elems lim (Go.Proofs.YtgmnnegfndpakaaGreatDoor.kY once n pl out).1
 | 0,pl,out,h=>h
 | n+1,pl,out,h=>by rw[Go.Proofs.YtgmnnegfndpakaaGreatDoor.kY];exact oJ.kY ho n _ _ ((ho pl h).join _ _)
theorem oJ.mY{once:List aU->List aU×dR}(ho:∀pl,oJ elems lim pl->oJ elems lim (once pl).1):∀(n:Nat) (pl:List aU) (out:dR),oJ elems lim pl->oJ elems lim (Go.Proofs.YtgmnnegfndpakaaGreatDoor.mY once n pl out).1
 | 0,pl,out,h=>h
 | n+1,pl,out,h=>by rw[Go.Proofs.YtgmnnegfndpakaaGreatDoor.mY];exact oJ.mY ho n _ _ ((ho pl h).join _ _)
theorem oJ.times{once:List aU->List aU×dR}(ho:∀pl,oJ elems lim pl->oJ elems lim (once pl).1)(mn mx z:Int)(pl:List aU)(h:oJ elems lim pl):oJ elems lim (rH once mn mx z pl).1:=by
 unfold rH
 split
 ·exact h
 have h1:=oJ.kY ho mn.toNat pl oN h;dsimp only
 split
 ·exact((ho _ h1).join _ _).join _ _
 exact(oJ.mY ho _ _ _ h1).join _ _
theorem agB{k mn mx el:Int}{c:aT}{pr:Int}{args:List aJ}{top:Bool}(hf:bT elems.length top (.mk k mn mx el c pr args)=true):xE elems (.mk k mn mx el c pr args):=λhk=>by
 have fM:k=1:=hk;rw[bT,j6 fM] at hf;simp only[z7,gy] at hf;exact⟨hf.1.1.1.1,hf.1.1.1.2⟩
mutual
theorem aaC:∀(p:aJ) (top:Bool),bT elems.length top p=true->p.kind≠5->∀(num:Nat) (pl:List aU),num+dh p<=lim->oJ elems lim pl->oJ elems lim (kL p num pl).1
 | .mk k mn mx el c pr args,top,hf,lq,num,pl,hl,h=>by
   have aB0:k≠5:=lq;rw[dh] at hl;rw[kL];by_cases hk:fD k=true
   ·rw[j6 hk];intro i l hi;have DT:((pl++[⟨.mk k mn mx el c pr args,num,[]⟩])[i]?).map (λq:aU=>(q.num,q.leaf))=l:=hi
    rcases i8 i pl.length with aN | jT
    ·rw[z20 aN] at DT;exact h i l DT
    rw[z21 jT] at DT
    cases hj:i - pl.length with
    | zero=>
      rw[hj] at DT;obtain rfl:(num,aJ.mk k mn mx el c pr args)=l:=(by simpa using DT);exact⟨agB hf,by show num<lim;omega⟩
    | succ j=>rw[hj] at DT;simp at DT
   rw[j5 hk]
   have he:jZ elems.length args=true:=by
    rw[bT] at hf;by_cases h1:k=1
    ·exact absurd (by rw[h1];rfl) hk
    by_cases h2:k=2
    ·exact absurd (by rw[h2];rfl) hk
    rw[j5 h1,j5 h2] at hf;by_cases h3:k=3
    ·rw[j6 h3] at hf;simp only[z7] at hf;exact hf.2
    rw[j5 h3] at hf;by_cases h4:k=4
    ·rw[j6 h4] at hf;simp only[z7] at hf;exact hf.2
    rw[j5 h4,j5 aB0] at hf;cases hf
   exact Ou args he _ (num+1) pl _ zO h
theorem Ou:∀(l:List aJ),jZ elems.length l=true->∀(sq:Bool) (num:Nat) (pl:List aU) (out:dR),num+dZ l<=lim->oJ elems lim pl->oJ elems lim (pI sq l num pl out).1
 | [],_,sq,num,pl,out,_,h=>by rw[pI];exact h
 | p::l,he,sq,num,pl,out,hl,h=>by
   rw[jZ,z7,z7] at he;rw[dZ] at hl
   have lq:p.kind≠5:=λe=>by
    have h2:=he.1.2;obtain⟨k,mn,mx,el,c,pr,args⟩:=p;have h5:k=5:=e;subst h5;rw[bT] at h2;simp at h2
   have ht:=oJ.times (λpl h=>aaC p false he.1.2 lq num pl zO h) p.mn p.mx (dC p) pl h;rw[pI]
   split
   ·exact Ou l he.2 _ _ _ _ zO (ht.join _ _)
   exact Ou l he.2 _ _ _ _ zO ht
end
end
theorem MH(h:kN elems p=0):mQ (eU elems p):=by
 by_cases hk:p.kind=5
 ·obtain⟨-,-,dD,hlen,dW⟩:=af7 h hk;have hb:eU elems p=⟨elems,[],[],[],false,p.args⟩:=(by unfold eU;rw[j6 hk]);rw[hb];refine⟨zP,zP,zP,zP,λx hx=>?_,⟨zP,hlen,λ_=>rfl⟩,zP⟩;obtain⟨h1,h2,h3,-,h5⟩:=dW x hx;refine⟨?_,h2,h3⟩;obtain⟨k,mn,mx,el,c,pr,args⟩:=x;exact agB h5
 obtain⟨hg,hn,hc⟩:=Vz h hk;obtain⟨-,-,-,-,hf,-⟩:=J5 h;have hm:=xI hg hn 0 [];have bP:=Ez hg hn hc 0 [];have hpo:oJ elems 1000000 (fV p 0 []).1:=oJ.times (λpl h=>aaC p true hf hk 0 pl zO h) p.mn p.mx (dC p) [] (λi l hi=>by unfold sG at hi;simp at hi);have hb:eU elems p=⟨elems,(fV p 0 []).1,(fV p 0 []).2.first,(fV p 0 []).2.last,(fV p 0 []).2.empty,[]⟩:=(by unfold eU;rw[j5 hk]);rw[hb];have hl:=bP.len;have h0:([]:List aU).length=0:=rfl;rw[h0] at hl;have lab:∀(i:Nat) (q:aU),(fV p 0 []).1[i]?=q->sG (fV p 0 []).1 i=some (q.num,q.leaf):=λi q hq=>(by unfold sG;rw[hq];rfl);refine⟨λi hi=>(hm.ok.fF.first i hi).2,λi q hq j hj=>(hm.ok.fF.qI i j ⟨Nat.zero_le _,(z4.1 hq).1⟩ ⟨q,hq,hj⟩).2,λi hi=>(hm.ok.fF.last i hi).2,λi q hq=>(hpo i _ (lab i q hq)).1,zP,⟨by show (fV p 0 []).1.length<=200;omega,zP,zP⟩,λi q hq=>(hpo i _ (lab i q hq)).2⟩
theorem XM:∀(l:List aJ) (s i u q:Nat),(qH l s i u q).length<=l.length
 | [],_,_,_,_=>zR _
 | p::l,s,i,u,q=>by
   rw[qH,z5,z9];have:=XM l s (i+1) (4*u) (q / 4)
   split<;>simp<;>omega
theorem XN(pl:List aU):∀l:List Nat,(l.flatMap (CP pl)).length<=l.length
 | []=>zR _
 | i::l=>by
   rw[l4,z5,z9];have h1:=XN pl l;have h2:(CP pl i).length<=1:=(by unfold CP;split<;>simp);omega
theorem FW(h:kN elems p=0)(s:Nat):(gK (eU elems p) s).length<=300000:=by
 have fQ:=MH h;unfold gK
 split
 ·refine zT (XN _ _) ?_;by_cases hk:p.kind=5
  ·have hb:eU elems p=⟨elems,[],[],[],false,p.args⟩:=(by unfold eU;rw[j6 hk])
   rw[hb];unfold ku;split<;>simp
  obtain⟨hg,hn,hc⟩:=Vz h hk;have bP:=Ez hg hn hc 0 [];have hb:eU elems p=⟨elems,(fV p 0 []).1,(fV p 0 []).2.first,(fV p 0 []).2.last,(fV p 0 []).2.empty,[]⟩:=(by unfold eU;rw[j5 hk]);rw[hb];unfold ku;dsimp only
  split
  ·have:=bP.fl;omega
  split
  ·rename_i q hq;have:=bP.qI _ q (Nat.zero_le _) hq;omega
  simp
 exact zT (XM _ _ _ _ _) (by have:=fQ.len.2.1;omega)
theorem anw(fQ:mQ m)(_:YR m s)(h:y∈gK m s)(_:m.all≠[]->s<4096):(m.all=[]->y.dst<=m.places.length)/\y.num<1000000:=by
 unfold gK at h
 split at h
 ·rename_i dW;obtain⟨i,hi,hy⟩:=List.mem_flatMap.1 h;unfold CP at hy
  split at hy
  ·rename_i q hq;rw[og] at hy;subst hy;exact⟨λ_=>(z4.1 hq).1,fQ.num i q hq⟩
  simp at hy
 rename_i dW;refine⟨λe=>absurd (by rw[e];rfl) dW,?_⟩
 have key:∀(l:List aJ) (s i u q:Nat),y∈qH l s i u q->y.num<=i+l.length:=by
  intro l
  induction l with
  | nil=>intro s i u q h;rw[qH] at h;simp at h
  | cons p l ih=>
    intro s i u q h;rw[qH,z12] at h;rw[z9]
    rcases h with h | h
    ·split at h
     ·rw[og] at h;subst h;show i+1<=_;omega
     simp at h
    have:=ih _ _ _ _ h;omega
 have:=key m.all s 0 1 s h;have:=fQ.len.2.1;omega
theorem aaD:∀(l:List aJ) (s i u q:Nat) (y:Stp),(∀p∈l,p.mx<=3)->y∈qH l s i u q->∀lo,s=lo+u*q->lo<u->q<4 ^ l.length->y.dst<u*4 ^ l.length
 | [],_,_,_,_,y,_,h,_,_,_,_=>by rw[qH] at h;simp at h
 | p::l,s,i,u,q,y,hp,h,lo,hs,o8,hq=>by
   rw[qH,z12] at h;rw[z9,Nat.pow_succ] at hq ⊢
   rcases h with h | h
   ·split at h
    ·rename_i hm;rw[og] at h;subst h;have h3:=hp p zP;have hd:q % 4<3:=zO;show s+u<_;have h1:q+1<=4 ^ l.length*4:=zO;have h2:q+2<=4 ^ l.length*4\/q+1=4 ^ l.length*4:=zO
     rcases h2 with h2 | h2
     ·have h4:u*(q+2)<=u*(4 ^ l.length*4):=Nat.mul_le_mul_left _ h2;rw[Nat.mul_add] at h4;omega
     omega
    simp at h
   have:=aaD l s (i+1) (4*u) (q / 4) y (λp hx=>hp p (by simp[hx])) h (lo+u*(q % 4)) (by
    rw[hs,Nat.add_assoc,Nat.mul_comm 4 u,Nat.mul_assoc,<-Nat.mul_add,Nat.mod_add_div]) (by
    have h1:u*(q % 4)<=u*3:=Nat.mul_le_mul_left _ zO
    omega) zO
   rw[show u*(4 ^ l.length*4)=4*u*4 ^ l.length by rw[Nat.mul_comm (4 ^ l.length) 4,<-Nat.mul_assoc,Nat.mul_comm u 4]];exact this
theorem AY{β:Type}(k j:Int)(v:β):∀l:List (Int×β),dP jL j (jh jL k v l)=if j=k then some v else dP jL j l
 | []=>by
   rw[jh,dP,dP];by_cases h:j=k
   ·subst h;simp[jL]
   simp[jL,h,dP]
 | (k',u)::l=>by
   rw[jh];by_cases h:k=k'
   ·subst h;rw[j6 (by simp[jL]),dP,dP];by_cases hj:j=k
    ·subst hj;simp[jL]
    simp[jL,hj]
   rw[j5 (by simpa[jL] using h),dP,dP,AY k j v l];by_cases hj:j=k'
   ·subst hj;simp[jL,Ne.symm h]
   simp[jL,hj]
theorem KD(t t' s:Nat):∀l:List (Nat×List Nat),fZ t' (QI t s l)=if t'=t then fZ t l++[s] else fZ t' l
 | []=>by
   rw[QI,fZ,fZ,fZ,fZ];simp
 | (k,r)::l=>by
   rw[QI];by_cases h:t=k
   ·subst h;rw[j6 rfl,fZ,fZ,fZ,j6 rfl];by_cases hj:t'=t
    ·rw[j6 hj,j6 hj]
    rw[j5 hj,j5 hj,j5 hj]
   rw[j5 h,fZ,KD t t' s l,fZ,fZ,j5 h];by_cases hj:t'=k
   ·rw[j6 hj,j6 hj,j5 (λe=>h (e.symm.trans hj))]
   rw[j5 hj,j5 hj]
theorem cne{a b:Nat}(h:a≠b):¬(a:Int)=(b:Int):=by omega
def Dx(L:List (Int×Value))(t:Nat):Value:=(dP jL (t:Int) L).getD ()
def qh(w:World)(base:Nat)(T:Nat->Prop)(g:Nat)(back:List (Nat×List Nat)):Prop:=
 ∃L:List (Int×Value),gQ w g vM id L/\(∀t:Nat,ax w base 3 1 aV (fZ t back) (Dx L t))/\(∀t t' k:Nat,t≠t'->(Dx L t).ownBlock=k->(Dx L t').ownBlock≠some k)/\∀t k:Nat,(Dx L t).ownBlock=k->T k
theorem qh.keep{w':World}(h:qh w base T g back)(hb:∀k,(T k\/k=g)->w'.heap[k]?=w.heap[k]?):qh w' base T g back:=by
 obtain⟨L,h1,h2,h3,h4⟩:=h;exact⟨L,h1.keep (hb g (.inr rfl)),λt=>(h2 t).bu λk hk=>hb k (.inl (h4 t k hk)),h3,h4⟩
theorem qh.lt(h:qh w base T g back):g<w:=by
 obtain⟨L,h1,-⟩:=h;exact h1.lt
theorem qh.wide{T':Nat->Prop}(h:qh w base T g back)(hT:∀k,T k->T' k):qh w base T' g back:=by
 obtain⟨L,h1,h2,h3,h4⟩:=h;exact⟨L,h1,h2,h3,λt k hk=>hT k (h4 t k hk)⟩
theorem qh.new(h:gQ w g vM id ([]:List (Int×Value))):qh w base (λ_=>False) g []:=
 ⟨[],h,λt=>ax.nil _ _ _ _ _,λt t' k _ hk=>by simp[Dx,dP,Value.ownBlock] at hk,λt k hk=>by simp[Dx,dP,Value.ownBlock] at hk⟩
theorem qh.look(h:qh w base T g back)(t:Nat):
 ∃A c,(Instr.lookup 191 (.map (some g)) t false).run prog w= .ok (.slice A (fZ t back).length c) w/\ax w base 3 1 aV (fZ t back) (.slice A (fZ t back).length c)/\∀k,(Value.slice A (fZ t back).length c).ownBlock=some k->T k:=by
 obtain⟨L,h1,h2,h3,h4⟩:=h;obtain⟨A,c,hf⟩:=(h2 t).form;have h:=qX (P:=prog) (zv:=()) qJ underlying191 (λW=>by kernel_rfl) h1 (t:Int) false;refine⟨A,c,?_,hf ▸ h2 t,λk hk=>h4 t k (by rw[hf];exact hk)⟩;rw[<-hf];refine h.trans ?_;unfold Dx;cases dP jL (t:Int) L<;>rfl
theorem qh.put(h:qh w base T g back)(hT:∀k,T k->k≠g)
 (hl:(Instr.lookup 191 (.map (some g)) t false).run prog w= .ok (A,(fZ t back).length,c) w)
 (dD:(Value.slice A (fZ t back).length c).ownBlock≠some g) (hk:∀k,k<w.heap.size->(Value.slice A (fZ t back).length c).ownBlock≠some k->w1.heap[k]?=w.heap[k]?)
 (ho:ax w1 base 3 1 aV (fZ t back++[s]) v') (hb:v'.ownBlock=(Value.slice A (fZ t back).length c).ownBlock\/∃k,v'.ownBlock=some k/\w.heap.size<=k):
 ∃W',(Instr.mapUpdate 191 (.map (some g)) t v').run prog w1= .ok () W'/\qh W' base (λk=>T k\/v'.ownBlock=some k) g (QI t s back)/\(∀b,b≠g->W'.heap[b]?=w1.heap[b]?)/\W'.heap.size=w1.heap.size/\Kept (· =g) w1 W':=by
 obtain⟨L,h1,h2,h3,h4⟩:=h
 have hV:Dx L t= (A,(fZ t back).length,c):=by
  have hh:=qX (P:=prog) (zv:=()) qJ underlying191 (λW=>by kernel_rfl) h1 (t:Int) false;have he:=hh.symm.trans hl;simp only[b6,if_false,Result.ok.injEq,and_true] at he;rw[<-he];unfold Dx;cases dP jL (t:Int) L<;>rfl
 have aN:=h1.lt;have iY:gQ w1 g vM id L:=h1.keep (hk g aN dD);have bG:=ED (P:=prog) qJ underlying191 iY (t:Int) v';obtain⟨W',hW,hp1,hp2,hp3,hp4⟩:=iY.put (l':=jh jL (t:Int) v' L);refine⟨W',bG.trans (by rw[hW]),⟨_,hp1,λt'=>?_,λt1 t2 k hn eu=>?_,λt' k eu=>?_⟩,hp2,hp3,hp4⟩
 ·unfold Dx;rw[AY,KD];by_cases e:t'=t
  ·subst e;rw[j6 rfl,j6 rfl];refine ho.bu λk eu=>hp2 k ?_;rintro rfl
   rcases hb with hb | ⟨k2,hb,hs⟩
   ·exact dD (hb ▸ eu)
   rw[hb] at eu;cases eu;omega
  rw[j5 (cne e),j5 e]
  have h5:ax w1 base 3 1 aV (fZ t' back) (Dx L t'):=(h2 t').grown λk eu dm=>hk k eu (by
   rw[<-hV]
   exact h3 t' t k e dm.symm)
  exact h5.bu λk eu=>hp2 k (hT k (h4 t' k eu))
 ·unfold Dx at eu ⊢;rw[AY] at eu ⊢
  have new:∀(t' k:Nat),t'≠t->v'.ownBlock=k->(Dx L t').ownBlock≠some k:=λt' k hn eu dm=>by
   rcases hb with hb | ⟨k2,hb,hs⟩
   ·exact h3 t' t k hn dm (by rw[hV,<-hb];exact eu)
   rw[hb] at eu;cases eu;have:=((h2 t').block_lt dm).2;omega
  by_cases e1:t1=t
  ·subst e1;rw[j6 rfl] at eu;rw[j5 (cne (Ne.symm hn))];exact new t2 k (Ne.symm hn) eu
  rw[j5 (cne e1)] at eu;by_cases e2:t2=t
  ·subst e2;rw[j6 rfl];intro dm;exact new t1 k e1 dm eu
  rw[j5 (cne e2)];exact h3 t1 t2 k hn eu
 unfold Dx at eu;rw[AY] at eu;by_cases e:t'=t
 ·subst e;rw[j6 rfl] at eu;exact .inr eu
 rw[j5 (cne e)] at eu;exact .inl (h4 t' k eu)
theorem jY.new(h:gQ w g vM bV ([]:List (Int×Bool))):jY w g []:=⟨[],h,λs=>by simp[dP]⟩
theorem jY.put{live:List Nat}(h:jY w g live)(s:Nat):
 ∃W',(Instr.mapUpdate 122 (.map (some g)) s true).run prog w= .ok () W'/\jY W' g (live++[s])/\(∀b,b≠g->W'.heap[b]?=w.heap[b]?)/\W'.heap.size=w.heap.size/\Kept (· =g) w W':=by
 obtain⟨L,h1,h2⟩:=h;have bG:=ED (P:=prog) qJ underlying122 h1 (s:Int) true;obtain⟨W',hW,hp1,hp2,hp3,hp4⟩:=h1.put (l':=jh jL (s:Int) true L);refine⟨W',bG.trans (by rw[hW]),⟨_,hp1,λj=>?_⟩,hp2,hp3,hp4⟩;rw[AY];by_cases e:j=s
 ·subst e;rw[j6 rfl];simp
 rw[j5 (cne e),h2 j];simp[e]
theorem jY.same{l':List Nat}(h:jY w g l)(he:∀s,s∈l↔s∈l'):jY w g l':=by
 obtain⟨L,h1,h2⟩:=h;exact⟨L,h1,λs=>(h2 s).trans (decide_eq_decide.2 (he s))⟩
theorem anx(n:Nat)(h:n<10)(W:World):(convert 21 9 (.int .i32 (48+(n:Int)))).run prog W= .ok (.string ⟨(Lib.decDigits n).toArray⟩) W:=by
 rw[Lib.decDigits,dif_pos h];have h':n=0\/n=1\/n=2\/n=3\/n=4\/n=5\/n=6\/n=7\/n=8\/n=9:=zO
 rcases h' with rfl | rfl | rfl | rfl | rfl | rfl | rfl | rfl | rfl | rfl<;>(show _=_;kernel_rfl)
theorem YT(n:Nat):(Lib.decDigits n).length<=n+1:=by
 induction n using Nat.strongRecOn with
 | _ n ih=>
   rw[Lib.decDigits];by_cases h:n<10
   ·rw[dif_pos h];simp
   rw[dif_neg h,z5,TQ];have:=ih (n / 10) zO;omega
theorem XO:∀(n:Nat),n<1000000000->∀w:World,Rt 169 #[n] w (.string ⟨(Lib.decDigits n).toArray⟩):=by
 intro n
 induction n using Nat.strongRecOn with
 | _ n ih=>
   intro hn w;by_cases h:n<10
   ·have hd:=zT1 (n<10);have hc:=anx n h;have HC:=zH hc;go_enter func169,ntmps169;go_wp2_with fail;go_ret;exact⟨rfl,j9 _ _⟩
   have hd:=zT2 (n<10);have H1:=zH (ih (n / 10) zO zO);have H2:=zH (ih (n % 10) zO zO);have l1:=YT (n / 10);have l2:=YT (n % 10);obtain⟨d1,gJ⟩:=zF (Lib.decDigits (n / 10));obtain⟨d2,jc⟩:=zF (Lib.decDigits (n % 10))
   have HE:Hid (Lib.decDigits n=d1++d2):=zH (by
    rw[<-gJ,<-jc,Lib.decDigits,dif_neg h]
    congr 1
    rw[Lib.decDigits,dif_pos zO])
   rw[gJ] at H1 l1;rw[jc] at H2 l2;clear gJ jc ih;go_enter func169,ntmps169;go_wp2_with fail;refine ((show ((n / 10:Nat):Int)=(n:Int) / 10 by omega) ▸ H1 w).mono ?_;rintro e w1 ⟨rfl,ai⟩;go_wp2_with fail;refine ((show ((n % 10:Nat):Int)=(n:Int) % 10 by omega) ▸ H2 w1).mono ?_;rintro e w2 ⟨rfl,ag⟩;have hL:=zT2 (9223372036854775807<d1.length+d2.length);go_wp2_with fail;go_ret;exact⟨by rw[HE.out];congr 2,ai.seq ag⟩
theorem ahV{c:Code}{G:Type}(I:G->Act->World->Prop)(μ:G->Nat)(g0:G)(h0:I g0 a w)
 (round:∀g a w,I g a w->c.wpIn F n P (Exit.then (λa' w'=>∃g',I g' a' w'/\μ g'<μ g) Q) a w):(Code.loop c).wpIn F n P Q a w:=by
 classical
 have least:∀(R:Nat->Prop) (n:Nat),R n->∃m,R m/\∀k,R k->m<=k:=by
  intro R n
  induction n using Nat.strongRecOn with
  | _ n ih=>
    intro hn;by_cases h:∃k,k<n/\R k
    ·obtain⟨k,hk,hr⟩:=h;exact ih k hk hr
    exact⟨n,hn,λk hk=>by
     rcases i8 k n with h1 | h1
     ·exact absurd ⟨k,h1,hk⟩ h
     exact h1⟩
 have key:∀(a:Act) (w:World),∃m:Nat,(∃g,I g a w)->(∃g,I g a w/\μ g=m)/\∀g,I g a w->m<=μ g:=by
  intro a w;by_cases h:∃g,I g a w
  ·obtain⟨g,hg⟩:=h;obtain⟨m,h1,h2⟩:=least (λm=>∃g,I g a w/\μ g=m) (μ g) ⟨g,hg,rfl⟩;exact⟨m,λ_=>⟨h1,λg hg=>h2 _ ⟨g,hg,rfl⟩⟩⟩
  exact⟨0,λh'=>absurd h' h⟩
 refine wpIn_loop (λa w=>∃g,I g a w) (λa w=>Classical.choose (key a w)) ⟨g0,h0⟩ ?_;intro a w hI;obtain⟨⟨g,hg,hm⟩,-⟩:=Classical.choose_spec (key a w) hI;refine wpIn_mono (round g a w hg) ?_;intro e a' w' hp
 cases e with
 | normal=>
   obtain⟨g',FK,aN⟩:=hp;exact⟨⟨g',FK⟩,Qe ((Classical.choose_spec (key a' w') ⟨g',FK⟩).2 g' FK) (by rw[<-hm];exact aN)⟩
 | _=>exact hp
theorem Ba:∀(n:Nat) (l:List Nat),l.Nodup->(∀s∈l,s<n)->l.length<=n
 | 0,l,_,h=>by
   cases l with
   | nil=>exact zR _
   | cons x l=>exact absurd (h x zP) (Nat.not_lt_zero _)
 | n+1,l,hd,h=>by
   by_cases hn:n∈l
   ·have h1:=Ba n (l.erase n) (hd.erase n) λs hs=>by
     have h2:=h s (List.mem_of_mem_erase hs)
     have h3:s≠n:=λe=>by
      subst e;exact absurd hs (λhs=>by rw[hd.mem_erase_iff] at hs;exact hs.1 rfl)
     omega
    have h2:=List.length_erase_of_mem hn;have h3:0<l.length:=List.length_pos_of_mem hn;omega
   exact Nat.le_succ_of_le (Ba n l hd λs hs=>by
    have h2:=h s hs;have h3:s≠n:=λe=>hn (e ▸ hs)
    omega)
def jv(m:eQ)(s:Nat):Prop:=(m.all=[]->s<=m.places.length)/\(m.all≠[]->s<4 ^ m.all.length)
theorem jv.zero(m:eQ):jv m 0:=⟨λ_=>Nat.zero_le _,λ_=>Nat.pow_pos zD⟩
theorem jv.lt(h:jv m s):s<uf m:=by
 unfold uf;by_cases e:m.all=[]
 ·have:=h.1 e;have h4:0<4 ^ m.all.length:=Nat.pow_pos zD;omega
 have:=h.2 e;omega
theorem agG(h:n<=6):4 ^ n<=4096:=zT (Nat.pow_le_pow_right zD h) zD
theorem jv.small(fQ:mQ m)(h:jv m s):m.all≠[]->s<4096:=λe=>d4 (h.2 e) (agG fQ.len.2.1)
theorem EO(fQ:mQ m):uf m<=4297:=by
 unfold uf;have:=agG fQ.len.2.1;have:=fQ.len.1;omega
theorem jv.ok(fQ:mQ m)(h:jv m s):YR m s:=⟨h.1,by have:=h.lt;have:=EO fQ;omega⟩
theorem jv.step(fQ:mQ m)(h:jv m s)(hy:y∈gK m s):jv m y.dst:=by
 refine⟨(anw fQ (h.ok fQ) hy (h.small fQ)).1,λe=>?_⟩;unfold gK at hy
 split at hy
 ·rename_i dW;exact absurd (List.isEmpty_iff.1 dW) e
 have:=aaD m.all s 0 1 s y (λp hp=>(fQ.all p hp).2.2) hy 0 zO zO (h.2 e);omega
structure qU (m:eQ) (N:Nat) (st:CQ):Prop where
 nd:st.list.Nodup
 ok:∀s∈st.list,jv m s
 back:∀t s,s∈fZ t st.back->s∈st.list
 len:∀t,(fZ t st.back).length<=N
theorem qU.size{st:CQ}(h:qU m N st):st.list.length<=uf m:=Ba _ _ h.nd λs hs=>(h.ok s hs).lt
theorem qU.mono{N':Nat}{st:CQ}(h:qU m N st)(hN:N<=N'):qU m N' st:=⟨h.nd,h.ok,h.back,λt=>zT (h.len t) hN⟩
theorem qU.start(m:eQ):qU m 0 ⟨[0],[]⟩:=⟨zP,λs hs=>by rw[og] at hs;subst hs;exact jv.zero m,λt s hs=>by simp[fZ] at hs,λt=>by simp[fZ]⟩
theorem qU.step(fQ:mQ m){st:CQ}(h:qU m N st)(hs:s∈st.list)(hx:x∈gK m s):qU m (N+1) (oq m s st x):=by
 unfold oq
 split
 ·have ahr:∀y∈st.list,y∈(if x.dst∈st.list then st.list else st.list++[x.dst]):=λy hy=>by
   split
   ·exact hy
   exact z12.2 (.inl hy)
  refine⟨?_,λy hy=>?_,λt y hy=>?_,λt=>?_⟩
  ·dsimp only
   split
   ·exact h.nd
   rename_i hn;rw[List.nodup_append]
   exact⟨h.nd,zP,λa ha b hb e=>by
    rw[og] at hb;subst hb
    exact hn (e ▸ ha)⟩
  ·dsimp only at hy
   split at hy
   ·exact h.ok y hy
   rcases z12.1 hy with hy | hy
   ·exact h.ok y hy
   rw[og] at hy;subst hy;exact(h.ok s hs).step fQ hx
  ·dsimp only at hy;rw[KD] at hy
   split at hy
   ·rcases z12.1 hy with hy | hy
    ·exact ahr y (h.back _ y hy)
    rw[og] at hy;subst hy;exact ahr y hs
   exact ahr y (h.back _ y hy)
  dsimp only;rw[KD]
  split
  ·rw[z5,TQ];have:=h.len x.dst;omega
  have:=h.len t;omega
 exact h.mono zO
theorem UT{st:CQ}:∃r,(oq m s st x).list=st.list++r:=by
 unfold oq
 split
 ·dsimp only
  split
  ·exact⟨[],zP⟩
  exact⟨_,rfl⟩
 exact⟨[],zP⟩
theorem Lt:∀(l:List Stp) (st:CQ),∃r,(l.foldl (oq m s) st).list=st.list++r
 | [],st=>⟨[],zP⟩
 | x::l,st=>by
   obtain⟨r,hr⟩:=UT (m:=m) (s:=s) (st:=st) (x:=x);obtain⟨r',Aq⟩:=Lt l (oq m s st x);exact⟨r++r',by rw[JN,Aq,hr,d7]⟩
theorem qU.fold(fQ:mQ m):∀(l:List Stp) {N:Nat} {st:CQ},qU m N st->s∈st.list->(∀x∈l,x∈gK m s)->qU m (N+l.length) (l.foldl (oq m s) st)
 | [],N,st,h,_,_=>h
 | x::l,N,st,h,hs,hl=>by
   have h1:=h.step fQ hs (hl x zP);obtain⟨r,hr⟩:=UT (m:=m) (s:=s) (st:=st) (x:=x);have h2:=qU.fold fQ l h1 (by rw[hr];exact z12.2 (.inl hs)) (λy hy=>hl y (by simp[hy]));rw[JN,z9,show N+(l.length+1)=N+1+l.length by omega];exact h2
structure OA (m:eQ) (k:Nat) (st:CQ):Prop where
 ok:qU m (k*300000) st
 le:k<=st.list.length
 eq:QJ m (uf m+1 - k) k st=gB m
theorem OA.start(m:eQ):OA m 0 ⟨[0],[]⟩:=⟨by simpa using qU.start m,Nat.zero_le _,rfl⟩
theorem OA.next(fQ:mQ m)(uw:∀s,(gK m s).length<=300000){st:CQ}(h:OA m k st)(hs:st.list[k]?=some s):OA m (k+1) ((gK m s).foldl (oq m s) st):=by
 have aN:=(z4.1 hs).1;have bY:=h.ok.size;refine⟨?_,?_,?_⟩
 ·have h1:=qU.fold fQ (gK m s) h.ok (SK hs) (λx hx=>hx);exact h1.mono (by have:=uw s;omega)
 ·obtain⟨r,hr⟩:=Lt (m:=m) (s:=s) (gK m s) st;rw[hr,z5];omega
 rw[<-h.eq,show uf m+1 - k=(uf m+1 - (k+1))+1 by omega,QJ,hs];rfl
theorem OA.stop{st:CQ}(h:OA m k st)(hk:k=st.list.length):st=gB m:=by
 have bY:=h.ok.size;rw[<-h.eq,show uf m+1 - k=(uf m - k)+1 by omega,QJ,hk,JT (zR _)]
structure EP (L:List Nat) (st:List Nat×List Nat):Prop where
 nd:st.1.Nodup
 sub:∀s∈st.1,s∈L
 stk:∀s∈st.2,s∈st.1
theorem EP.step(h:EP L st)(ht:t∈L):EP L (lU st t):=by
 unfold lU
 split
 ·exact h
 rename_i hn;refine⟨?_,λs hs=>?_,λs hs=>?_⟩
 ·dsimp only;rw[List.nodup_append]
  exact⟨h.nd,zP,λa ha b hb e=>by
   rw[og] at hb;subst hb
   exact hn (e ▸ ha)⟩
 ·rcases z12.1 hs with hs | hs
  ·exact h.sub s hs
  rw[og] at hs;subst hs;exact ht
 rcases z12.1 hs with hs | hs
 ·exact z12.2 (.inl (h.stk s hs))
 exact z12.2 (.inr hs)
theorem EP.fold:∀(l:List Nat) {st:List Nat×List Nat},EP L st->(∀t∈l,t∈L)->EP L (l.foldl lU st)
 | [],_,h,_=>h
 | t::l,st,h,hl=>EP.fold l (h.step (hl t zP)) λx hx=>hl x (by simp[hx])
theorem ahW(h:j+st.2.length=st.1.length)(t:Nat):j+(lU st t).2.length=(lU st t).1.length:=by
 unfold lU
 split
 ·exact h
 simp only[z5,TQ];omega
theorem OB:∀(l:List Nat) {st:List Nat×List Nat},j+st.2.length=st.1.length->j+(l.foldl lU st).2.length=(l.foldl lU st).1.length
 | [],_,h=>h
 | t::l,_,h=>OB l (ahW h t)
theorem EP.size{lv:CQ}(hl:qU m N lv)(h:EP lv.list st):st.1.length<=uf m:=Ba _ _ h.nd λs hs=>(hl.ok s (h.sub s hs)).lt
structure OC (m:eQ) (j:Nat) (st:List Nat×List Nat):Prop where
 ok:EP (gB m).list st
 len:j+st.2.length=st.1.length
 eq:(drain (gB m).back (uf m+1 - j) st).1=aao m
theorem OC.start(m:eQ)(hl:qU m N (gB m)):OC m 0 ((gB m).list.filter (wH m),(gB m).list.filter (wH m)):=
 ⟨⟨hl.nd.filter _,λ_ hs=>(List.mem_filter.1 hs).1,λ_ hs=>hs⟩,d9 _,rfl⟩
theorem OC.next(hl:qU m N (gB m))(h:OC m j st)(hs:st.2.getLast?=s):OC m (j+1) ((fZ s (gB m).back).foldl lU (st.1,st.2.dropLast)):=by
 have bY:=h.ok.size hl;have dD:st.2≠[]:=λe=>(by rw[e] at hs;cases hs);have kD:0<st.2.length:=List.length_pos_iff.2 dD;have hlen:=h.len;refine⟨EP.fold _ ⟨h.ok.nd,h.ok.sub,λx hx=>h.ok.stk x (List.dropLast_subset _ hx)⟩ (λt ht=>hl.back s t ht),OB _ (by rw[List.length_dropLast];dsimp only;omega),?_⟩;rw[<-h.eq,show uf m+1 - j=(uf m+1 - (j+1))+1 by omega,drain,hs]
theorem OC.stop(hl:qU m N (gB m))(h:OC m j st)(hs:st.2=[]):st.1=aao m:=by
 have bY:=h.ok.size hl;have hlen:=h.len;rw[<-h.eq];rw[hs] at hlen;rw[show uf m+1 - j=(uf m - j)+1 by simp at hlen;omega,drain,hs];rfl
theorem qh.ap5(h:qh w base T g back)(t:Nat):
 ∃A c,(∀V:World,V.heap[g]?=w.heap[g]?->(Instr.lookup 191 (.map (some g)) t false).run prog V= .ok (.slice A (fZ t back).length c) V)/\ax w base 3 1 aV (fZ t back) (.slice A (fZ t back).length c)/\∀k,(Value.slice A (fZ t back).length c).ownBlock=some k->T k:=by
 obtain⟨A,c,h1,h2,h3⟩:=h.look t;refine⟨A,c,λV hV=>?_,h2,h3⟩;obtain⟨L,k1,k2,k3,k4⟩:=h;have hh:=qX (P:=prog) (zv:=()) qJ underlying191 (λW=>by kernel_rfl) k1 (t:Int) false;have hh':=qX (P:=prog) (zv:=()) qJ underlying191 (λW=>by kernel_rfl) (k1.keep hV) (t:Int) false;have he:=hh.symm.trans h1;simp only[b6,if_false,Result.ok.injEq,and_true] at he hh';exact hh'.trans (by rw[he])
theorem qh.aB1(h:qh w base T g back)(hT:∀k,T k->k≠g)
 (hl:(Instr.lookup 191 (.map (some g)) t false).run prog w= .ok (A,(fZ t back).length,c) w)
 (dD:(Value.slice A (fZ t back).length c).ownBlock≠some g) (hk:∀k,k<w.heap.size->(Value.slice A (fZ t back).length c).ownBlock≠some k->w1.heap[k]?=w.heap[k]?)
 (ho:ax w1 base 3 1 aV (fZ t back++[s]) v') (hb:v'.ownBlock=(Value.slice A (fZ t back).length c).ownBlock\/∃k,v'.ownBlock=some k/\w.heap.size<=k):
 ∃W',(Instr.mapUpdate 191 (.map (some g)) t v').run prog w1= .ok () W'/\qh W' base (λk=>(T k/\(Value.slice A (fZ t back).length c).ownBlock≠some k)\/v'.ownBlock=some k) g (QI t s back)/\(∀b,b≠g->W'.heap[b]?=w1.heap[b]?)/\W'.heap.size=w1.heap.size/\Kept (· =g) w1 W':=by
 obtain⟨L,h1,h2,h3,h4⟩:=h
 have hV:Dx L t= (A,(fZ t back).length,c):=by
  have hh:=qX (P:=prog) (zv:=()) qJ underlying191 (λW=>by kernel_rfl) h1 (t:Int) false;have he:=hh.symm.trans hl;simp only[b6,if_false,Result.ok.injEq,and_true] at he;rw[<-he];unfold Dx;cases dP jL (t:Int) L<;>rfl
 have aN:=h1.lt;have iY:gQ w1 g vM id L:=h1.keep (hk g aN dD);have bG:=ED (P:=prog) qJ underlying191 iY (t:Int) v';obtain⟨W',hW,hp1,hp2,hp3,hp4⟩:=iY.put (l':=jh jL (t:Int) v' L);refine⟨W',bG.trans (by rw[hW]),⟨_,hp1,λt'=>?_,λt1 t2 k hn eu=>?_,λt' k eu=>?_⟩,hp2,hp3,hp4⟩
 ·unfold Dx;rw[AY,KD];by_cases e:t'=t
  ·subst e;rw[j6 rfl,j6 rfl];refine ho.bu λk eu=>hp2 k ?_;rintro rfl
   rcases hb with hb | ⟨k2,hb,hs⟩
   ·exact dD (hb ▸ eu)
   rw[hb] at eu;cases eu;omega
  rw[j5 (cne e),j5 e]
  have h5:ax w1 base 3 1 aV (fZ t' back) (Dx L t'):=(h2 t').grown λk eu dm=>hk k eu (by
   rw[<-hV]
   exact h3 t' t k e dm.symm)
  exact h5.bu λk eu=>hp2 k (hT k (h4 t' k eu))
 ·unfold Dx at eu ⊢;rw[AY] at eu ⊢
  have new:∀(t' k:Nat),t'≠t->v'.ownBlock=k->(Dx L t').ownBlock≠some k:=λt' k hn eu dm=>by
   rcases hb with hb | ⟨k2,hb,hs⟩
   ·exact h3 t' t k hn dm (by rw[hV,<-hb];exact eu)
   rw[hb] at eu;cases eu;have:=((h2 t').block_lt dm).2;omega
  by_cases e1:t1=t
  ·subst e1;rw[j6 rfl] at eu;rw[j5 (cne (Ne.symm hn))];exact new t2 k (Ne.symm hn) eu
  rw[j5 (cne e1)] at eu;by_cases e2:t2=t
  ·subst e2;rw[j6 rfl];intro dm;exact new t1 k e1 dm eu
  rw[j5 (cne e2)];exact h3 t1 t2 k hn eu
 unfold Dx at eu;rw[AY] at eu;by_cases e:t'=t
 ·subst e;rw[j6 rfl] at eu;exact .inr eu
 rw[j5 (cne e)] at eu;exact .inl ⟨h4 t' k eu,by rw[<-hV];exact h3 t' t k e eu⟩
structure mD (W:World) (base g1 g2 lc:Nat) (Z:Nat->Prop) (kb k:Nat) (back:List (Nat×List Nat)) (ml list:List Nat) (v:Value) (T:Nat->Prop):Prop where
 back:qh W base T g1 back
 mark:jY W g2 ml
 cell:W.heap[lc]?=Zc #[v] 58
 own:ax W base 3 1 aV list v
 kc:W.heap[kb]?=Zc #[k] 3
 vz:∀q,v.ownBlock=some q->Z q/\¬T q/\q≠kb
 tz:∀q,T q->Z q/\q≠kb/\∃cs,W.heap[q]?=some (.cells cs 3)
 ne:g1≠g2/\kb≠lc/\kb≠g1/\kb≠g2/\lc≠g1/\lc≠g2
 zz:∀q,Z q->q≠g1/\q≠g2/\q≠lc
section
variable {W:World} {base g1 g2 lc:Nat} {Z:Nat->Prop} {kb k:Nat} {back:List (Nat×List Nat)} {ml list:List Nat} {v:Value} {T:Nat->Prop}
theorem mD.tlt(h:mD W base g1 g2 lc Z kb k back ml list v T){q:Nat}(hq:T q):q<W:=by
 obtain⟨cs,h1⟩:=(h.tz q hq).2.2;exact aC h1
theorem mD.keep(h:mD W base g1 g2 lc Z kb k back ml list v T){W':World}(_:W.heap.size<=W')(hb:∀q,q<W.heap.size->(Z q\/q=g1\/q=g2\/q=lc\/q=kb)->W'.heap[q]?=W.heap[q]?):mD W' base g1 g2 lc Z kb k back ml list v T where
 back:=h.back.keep λq hq=>by
  rcases hq with hq | rfl
  ·exact hb q (h.tlt hq) (.inl (h.tz q hq).1)
  exact hb q h.back.lt (.inr (.inl rfl))
 mark:=h.mark.keep (hb g2 h.mark.lt (.inr (.inr (.inl rfl))))
 cell:=(hb lc (aC h.cell) (.inr (.inr (.inr (.inl rfl))))).trans h.cell
 own:=h.own.bu λq hq=>hb q (h.own.block_lt hq).2 (.inl (h.vz q hq).1)
 kc:=(hb kb (aC h.kc) (.inr (.inr (.inr (.inr rfl))))).trans h.kc
 vz:=h.vz
 tz q hq:=by
  obtain⟨h1,h2,cs,h3⟩:=h.tz q hq;exact⟨h1,h2,cs,(hb q (aC h3) (.inl h1)).trans h3⟩
 ne:=h.ne
 zz:=h.zz
theorem mD.below(h:mD W base g1 g2 lc Z kb k back ml list v T){W':World}(hb:Bw W W'):mD W' base g1 g2 lc Z kb k back ml list v T:=h.keep hb.size λq hq _=>hb.block q hq
theorem mD.auo(h:mD W base g1 g2 lc Z kb k back ml list v T){Z':Nat->Prop}(hz:∀q,Z q->q<W.heap.size->Z' q)(hzz:∀q,Z' q->q≠g1/\q≠g2/\q≠lc):mD W base g1 g2 lc Z' kb k back ml list v T:=
 { h with vz:=λq hq=>⟨hz q (h.vz q hq).1 (h.own.block_lt hq).2,(h.vz q hq).2⟩,tz:=λq hq=>⟨hz q (h.tz q hq).1 (h.tlt hq),(h.tz q hq).2⟩,zz:=hzz }
theorem mD.aB2(h:mD W base g1 g2 lc Z kb k back ml list v T){W':World}{kb' k':Nat}(hs:W.heap.size<=W')(hb:∀q,q<W.heap.size->W'.heap[q]?=W.heap[q]?)(hk:W'.heap[kb']?=Zc #[k'] 3)(yw:W<=kb'):mD W' base g1 g2 lc Z kb' k' back ml list v T:=by
 obtain⟨h1,a1,a2,a3⟩:=zK4 (h.keep hs λq hq _=>hb q hq) h.back.lt h.mark.lt (aC h.cell)
 exact { h1 with
  kc:=hk
  vz:=λq hq=>⟨(h.vz q hq).1,(h.vz q hq).2.1,by have:=(h.own.block_lt hq).2;omega⟩
  tz:=λq hq=>⟨(h.tz q hq).1,by have:=h.tlt hq;omega,(h1.tz q hq).2.2⟩
  ne:=⟨h.ne.1,zO,zO,zO,h.ne.2.2.2.2⟩ }
theorem mD.see(h:mD W base g1 g2 lc Z kb k back ml list v T)(t:Nat):
 ∃W',(Instr.mapUpdate 122 (.map (some g2)) t true).run prog W= .ok () W'/\mD W' base g1 g2 lc Z kb k back (ml++[t]) list v T/\(∀b,b≠g2->W'.heap[b]?=W.heap[b]?)/\W'.heap.size=W.heap.size/\Kept (· =g2) W W':=by
 obtain⟨W',h1,h2,h3,h4,h5⟩:=h.mark.put t;refine⟨W',h1,?_,h3,h4,h5⟩
 exact {
  back:=h.back.keep λq hq=>h3 q (by
   rcases hq with hq | rfl
   ·exact(h.zz q (h.tz q hq).1).2.1
   exact h.ne.1)
  mark:=h2
  cell:=(h3 lc h.ne.2.2.2.2.2).trans h.cell
  own:=h.own.bu λq hq=>h3 q (h.zz q (h.vz q hq).1).2.1
  kc:=(h3 kb h.ne.2.2.2.1).trans h.kc
  vz:=h.vz
  tz:=λq hq=>by
   obtain⟨k1,k2,cs,k3⟩:=h.tz q hq;exact⟨k1,k2,cs,(h3 q (h.zz q k1).2.1).trans k3⟩
  ne:=h.ne
  zz:=h.zz }
theorem mD.push(h:mD W base g1 g2 lc Z kb k back ml list v T)(t s:Nat)(hlen:(fZ t back).length<1000000000000)(eY:base<=W)(XR:∀q,W.heap.size<=q->Z q){W8:World}(hW8:W.alloc (Zc #[s] 3)=W8):
 ∃A c n v' W9 KF,(∀V:World,V.heap[g1]?=W.heap[g1]?->(Instr.lookup 191 (.map (some g1)) t false).run prog V= .ok (.slice A n c) V)/\
  (Builtin.append_ #[58,58] 58 #[.slice A n c,(W,0,1,1)]).run prog W8= .ok v' W9/\
  (Instr.mapUpdate 191 (.map (some g1)) t v').run prog W9= .ok () KF/\
  mD KF base g1 g2 lc Z kb k (QI t s back) ml list v (λq=>(T q/\(Value.slice A n c).ownBlock≠some q)\/v'.ownBlock=some q)/\
  (∀q,q<W.heap.size->W8.heap[q]?=W.heap[q]?)/\(∀q,q<W.heap.size->¬T q->W9.heap[q]?=W.heap[q]?)/\(∀q,q<W.heap.size->¬T q->q≠g1->KF.heap[q]?=W.heap[q]?)/\Kept (λq=>T q\/q=g1) W KF:=by
 obtain⟨Ej,adI,S8,hs8,eX⟩:=af W (Zc #[s] 3);obtain rfl:Ej=W8:=adI.symm.trans hW8;have h8:=h.below eX;obtain⟨A,c,hl,ho,ht⟩:=h8.back.ap5 t;obtain⟨v',W9,bG,zq,rQ,FQ⟩:=Jk Ej base (fZ t back) _ ho W 1 s (aO S8) hlen zO 58;have ahX:∀q,T q->q≠g1:=λq hq=>(h.zz q (h.tz q hq).1).1;have hblk:∀q,q<Ej.heap.size->¬T q->W9.heap[q]?=Ej.heap[q]?:=λq hq hn=>rQ.block q hq (λe=>hn (ht q e.symm));have lV:¬T g1:=λhq=>ahX g1 hq rfl
 obtain⟨KF,hu,jB,anC,bY,pz⟩:=h8.back.aB1 ahX (s:=s) (hl Ej rfl) (λe=>lV (ht g1 e)) (λq hq hn=>rQ.block q hq (λe=>hn e.symm)) zq (by
  rcases FQ with e | e
  ·exact .inl e
  exact .inr ⟨_,e,zR _⟩)
 have hs9:Ej.heap.size<=W9:=rQ.size;have b8:∀q,q<W.heap.size->Ej.heap[q]?=W.heap[q]?:=eX.block;have b9:∀q,q<W.heap.size->¬T q->W9.heap[q]?=W.heap[q]?:=λq hq hn=>(hblk q zO hn).trans (b8 q hq);have Sm:∀q,q<W.heap.size->¬T q->q≠g1->KF.heap[q]?=W.heap[q]?:=λq hq hn dD=>(anC q dD).trans (b9 q hq hn)
 have hTT:∀q,v'.ownBlock=some q->T q\/Ej.heap.size<=q:=λq hq=>by
  rcases FQ with e | e
  ·exact .inl (ht q (by rw[<-e];exact hq))
  rw[e] at hq;exact .inr (by have:=zI hq;omega)
 have hnT:∀q,(v.ownBlock=some q\/q=g2\/q=lc\/q=kb)->¬T q:=λq hq hT=>by
  rcases hq with hq | rfl | rfl | rfl
  ·exact(h.vz q hq).2.1 hT
  ·exact(h.zz _ (h.tz _ hT).1).2.1 rfl
  ·exact(h.zz _ (h.tz _ hT).1).2.2 rfl
  exact(h.tz _ hT).2.1 rfl
 refine⟨A,c,_,v',W9,KF,λV hV=>hl V (hV.trans (b8 g1 h.back.lt).symm),bG,hu,?_,b8,b9,Sm,?_⟩
 ·exact {
   back:=jB
   mark:=h.mark.keep (Sm g2 h.mark.lt (hnT g2 (.inr (.inl rfl))) (Ne.symm h.ne.1))
   cell:=(Sm lc (aC h.cell) (hnT lc (.inr (.inr (.inl rfl)))) h.ne.2.2.2.2.1).trans h.cell
   own:=h.own.bu λq hq=>Sm q (h.own.block_lt hq).2 (hnT q (.inl hq)) (h.zz q (h.vz q hq).1).1
   kc:=(Sm kb (aC h.kc) (hnT kb (.inr (.inr (.inr rfl)))) h.ne.2.2.1).trans h.kc
   vz:=λq hq=>⟨(h.vz q hq).1,λhT=>by
    have h1:=(h.own.block_lt hq).2
    rcases hT with hT | hT
    ·exact(h.vz q hq).2.1 hT.1
    rcases hTT q hT with hT | hT
    ·exact(h.vz q hq).2.1 hT
    omega,(h.vz q hq).2.2⟩
   tz:=λq hq=>by
    have h1:T q\/Ej<=q:=by
     rcases hq with hq | hq
     ·exact .inl hq.1
     exact hTT q hq
    have h2:∃cs,KF.heap[q]?=some (.cells cs 3):=by
     rcases hq with hq | hq
     ·obtain⟨-,-,cs,h5⟩:=h8.tz q hq.1;exact⟨cs,(anC q (ahX q hq.1)).trans ((rQ.block q (aC h5) (λe=>hq.2 e.symm)).trans h5)⟩
     obtain⟨cs,h5⟩:=zq.bC hq;refine⟨cs,(anC q ?_).trans h5⟩
     rcases hTT q hq with h6 | h6
     ·exact ahX q h6
     have:=h.back.lt;omega
    rcases h1 with h1 | h1
    ·exact⟨(h.tz q h1).1,(h.tz q h1).2.1,h2⟩
    exact⟨XR q zO,by have:=aC h.kc;omega,h2⟩
   ne:=h.ne
   zz:=h.zz }
 exact⟨pz.os.trans (rQ.os.trans eX.os),pz.tape.trans (rQ.tape.trans eX.tape),pz.output.trans (rQ.output.trans eX.output),by rw[bY];omega,λq hq hn=>Sm q hq (λe=>hn (.inl e)) (λe=>hn (.inr e))⟩
theorem mD.add(h:mD W base g1 g2 lc Z kb k back ml list v T)(t:Nat)(hlen:list.length<1000000000000)(eY:base<=W)(XR:∀q,W.heap.size<=q->Z q){W8:World}(hW8:W.alloc (Zc #[t] 3)=W8):
 ∃v' W9,(Builtin.append_ #[58,58] 58 #[v,(W,0,1,1)]).run prog W8= .ok v' W9/\W9.heap[lc]?=(Zc #[v] 58)/\
  mD (W9.setCell lc v') base g1 g2 lc Z kb k back ml (list++[t]) v' T/\Kept (λq=>Z q\/q=lc) W (W9.setCell lc v')/\
  (∀q,q<W.heap.size->v.ownBlock≠some q->W9.heap[q]?=W.heap[q]?):=by
 obtain⟨Ej,adI,S8,hs8,eX⟩:=af W (Zc #[t] 3);obtain rfl:Ej=W8:=adI.symm.trans hW8;have h8:=h.below eX;obtain⟨v',W9,bG,zq,rQ,FQ⟩:=Jk Ej base list _ h8.own W 1 t (aO S8) hlen zO 58;have hs9:Ej.heap.size<=W9.heap.size:=rQ.size;have b9:∀q,q<W.heap.size->v.ownBlock≠some q->W9.heap[q]?=W.heap[q]?:=λq hq hn=>(rQ.block q zO (λe=>hn e.symm)).trans (eX.block q hq)
 have FV:∀q,(T q\/q=g1\/q=g2\/q=lc\/q=kb)->v.ownBlock≠some q:=λq hq e=>by
  obtain⟨a,b,c⟩:=h.vz q e;obtain⟨d1,d2,d3⟩:=h.zz q a
  rcases hq with hq | rfl | rfl | rfl | rfl
  ·exact b hq
  ·exact d1 rfl
  ·exact d2 rfl
  ·exact d3 rfl
  exact c rfl
 have hc9:W9.heap[lc]?=Zc #[v] 58:=(b9 lc (aC h.cell) (FV lc (.inr (.inr (.inr (.inl rfl)))))).trans h.cell
 have hv':∀q,v'.ownBlock=some q->v.ownBlock=some q\/Ej.heap.size<=q:=λq hq=>by
  rcases FQ with e | e
  ·exact .inl (by rw[<-e];exact hq)
  rw[e] at hq;exact .inr (by have:=zI hq;omega)
 have hvl:∀q,v'.ownBlock=some q->q≠lc:=λq hq e=>by
  rcases hv' q hq with h1 | h1
  ·exact(h.zz q (h.vz q h1).1).2.2 e
  have:=aC h.cell;omega
 have aIo:(W9.setCell lc v').heap.size=W9.heap.size:=zS4;have bS:∀q,q<W.heap.size->v.ownBlock≠some q->q≠lc->(W9.setCell lc v').heap[q]?=W.heap[q]?:=λq hq hn hl=>(gq hl).trans (b9 q hq hn);refine⟨v',W9,bG,hc9,?_,?_,b9⟩
 ·exact {
   back:=h.back.keep λq hq=>by
    rcases hq with hq | rfl
    ·exact bS q (h.tlt hq) (FV q (.inl hq)) (h.zz q (h.tz q hq).1).2.2
    exact bS q h.back.lt (FV q (.inr (.inl rfl))) (Ne.symm h.ne.2.2.2.2.1)
   mark:=h.mark.keep (bS g2 h.mark.lt (FV g2 (.inr (.inr (.inl rfl)))) (Ne.symm h.ne.2.2.2.2.2))
   cell:=bD hc9
   own:=zq.bu λq hq=>gq (hvl q hq)
   kc:=(bS kb (aC h.kc) (FV kb (.inr (.inr (.inr (.inr rfl))))) h.ne.2.1).trans h.kc
   vz:=λq hq=>by
    rcases hv' q hq with h1 | h1
    ·exact h.vz q h1
    exact⟨XR q zO,λhT=>by have:=h.tlt hT;omega,by have:=aC h.kc;omega⟩
   tz:=λq hq=>by
    obtain⟨k1,k2,cs,k3⟩:=h.tz q hq;exact⟨k1,k2,cs,(bS q (aC k3) (FV q (.inl hq)) (h.zz q k1).2.2).trans k3⟩
   ne:=h.ne
   zz:=h.zz }
 have k9:Kept (λq=>Z q\/q=lc) W W9:=⟨rQ.os.trans eX.os,rQ.tape.trans eX.tape,rQ.output.trans eX.output,zO,λq hq hn=>b9 q hq (λe=>hn (.inl (h.vz q e).1))⟩;exact k9.setCell (p:=lc) (.inl (.inr rfl)) _
end
theorem ax.abr(h:ax w base 3 1 aV l (A,n,c))(hn:l.length=n){i:Nat}(hi:i<n):
 ∃g x,Hid (l[i]?=some x)/\(Value.slice A n c).ownBlock=some g/\(∃cs,w.heap[g]?=some (.cells cs 3))/\w.cell? ⟨g,i,none⟩=some (.int .i64 (x:Int))/\∀W,(Instr.indexAt 58 (A,n,c) i).run prog W= .ok (.pointer (some ⟨g,i,none⟩)) W:=by
 obtain⟨A',c',e,aI,-,-⟩:=h.row jd zD
 rcases h.2 with ⟨e2,hz⟩ | ⟨g,cap,cur,e2,hg,hh,-,-,-,-⟩
 ·omega
 simp only[i6] at e e2;obtain⟨rfl,-,rfl⟩:=e;obtain⟨rfl,-,rfl⟩:=e2;rw[hn] at aI;have kK:=aI;obtain⟨b,off,hA,_,hc⟩:=aI.2 zO;simp only[l5,Addr.mk.injEq,and_true] at hA;obtain⟨rfl,rfl⟩:=hA;have hx:l[i]?=l[i]'zO:=z6 _;have h1:=hc i _ hx 0 _ rfl;rw[Nat.mul_one,Qf,d9] at h1;obtain⟨b2,ahT,x2,H2,h2,dO⟩:=kK.nat hi c;have aB3:=dO w;refine⟨_,_,zH hx,rfl,⟨_,hh⟩,h1,?_⟩;exact dN 58 3 1 underlying58 (λw=>by kernel_rfl) rfl n c i hi |> λh W=>(by have:=h W;rwa [Nat.mul_one,d9] at this)
structure xG (W:World) (base g8:Nat) (out stk:List Nat) (v:Value):Prop where
 own:ax W base 3 1 aV stk v
 mark:jY W g8 out
 lt:g8<base
theorem xG.below{W':World}(h:xG W base g8 out stk v)(hb:Bw W W'):xG W' base g8 out stk v:=
 ⟨h.own.bu λq hq=>hb.block q (h.own.block_lt hq).2,h.mark.keep (hb.block g8 h.mark.lt),h.lt⟩
theorem xG.push(h:xG W base g8 out stk v)(t:Nat)(hlen:stk.length<1000000000000)(eY:base<=W){W8:World}(hW8:W.alloc (Zc #[t] 3)=W8):
 ∃v' W9 KF,(Builtin.append_ #[58,58] 58 #[v,(W,0,1,1)]).run prog W8= .ok v' W9/\
  (Instr.mapUpdate 122 (.map (some g8)) t true).run prog W9= .ok () KF/\xG KF base g8 (out++[t]) (stk++[t]) v'/\Kept (λq=>q=g8\/base<=q) W KF:=by
 obtain⟨Ej,adI,S8,hs8,eX⟩:=af W (Zc #[t] 3);obtain rfl:Ej=W8:=adI.symm.trans hW8;have h8:=h.below eX;obtain⟨v',W9,bG,zq,rQ,FQ⟩:=Jk Ej base stk _ h8.own W 1 t (aO S8) hlen zO 58;have hg:∀q,some q=v.ownBlock->base<=q:=λq hq=>(h.own.block_lt hq.symm).1;have hm9:jY W9 g8 out:=h8.mark.keep (rQ.block g8 h8.mark.lt (λe=>by have:=hg g8 e;have:=h.lt;omega));obtain⟨KF,hu,VP,ho,bY,pz⟩:=hm9.put t;have hs9:Ej.heap.size<=W9:=rQ.size;refine⟨v',W9,KF,bG,hu,⟨zq.bu λq hq=>ho q (by have:=(zq.block_lt hq).1;have:=h.lt;omega),VP,h.lt⟩,?_⟩;exact⟨pz.os.trans (rQ.os.trans eX.os),pz.tape.trans (rQ.tape.trans eX.tape),pz.output.trans (rQ.output.trans eX.output),zO,λq hq hn=>(ho q (λe=>hn (.inl e))).trans ((rQ.block q zO (λe=>hn (.inr (hg q e)))).trans (eX.block q hq))⟩
theorem Jo(l:List Nat):(l.flatMap aV).length=l.length*1:=by
 induction l with
 | nil=>rfl
 | cons x l ih=>rw[l4,z5,ih,z9];show 1+l.length*1=_;omega
theorem ax.pop(h:ax w base 3 1 aV l (A,n,c))(hn:l.length=n)(hp:0<n):ax w base 3 1 aV l.dropLast (A,n - 1,c):=by
 obtain⟨h1,h2⟩:=h;have hd:l.dropLast.length=n - 1:=(by rw[List.length_dropLast,hn])
 rcases h2 with ⟨e,hz⟩ | ⟨g,cap,cur,e,hg,hh,GK,yg,mP,kU⟩
 ·omega
 simp only[i6] at e;obtain⟨rfl,-,rfl⟩:=e;have dD:l≠[]:=λe=>(by rw[e] at hn;simp at hn;omega);refine⟨by rw[<-Jo l.dropLast],.inr ⟨g,c,cur,by rw[hd],hg,hh,zO,yg,mP,?_⟩⟩;have h5:=List.dropLast_concat_getLast dD;rw[<-h5,l6] at kU;have h6:=congrArg (List.take (n - 1)) kU;rw[List.take_take,List.take_append_of_le_length (by rw[Jo,hd];omega)] at h6;have h7:(l.dropLast.flatMap aV).take (n - 1)=l.dropLast.flatMap aV:=l8 (by rw[Jo,hd];omega);rw[h7,h5,hn] at h6;rw[hd,Nat.mul_one,<-h6]
 congr 1
 omega
theorem xG.pop(h:xG W base g8 out stk (A,n,c))(hn:stk.length=n)(hp:0<n):xG W base g8 out stk.dropLast (A,n - 1,c):=⟨h.own.pop hn hp,h.mark,h.lt⟩
theorem OD(R:Nat->Prop):∃n,(∀d,R d->n<=d)/\((∃d,R d)->R n):=by
 by_cases h:∃d,R d
 ·obtain⟨d,hd⟩:=h
  have key:∀d,R d->∃n,(∀d,R d->n<=d)/\R n:=by
   intro d
   induction d using Nat.strongRecOn with
   | _ d ih=>
     intro hd;by_cases h:∃k,k<d/\R k
     ·obtain⟨k,hk,hr⟩:=h;exact ih k hk hr
     exact⟨d,λk hk=>by
      rcases i8 k d with h1 | h1
      ·exact absurd ⟨k,h1,hk⟩ h
      exact h1,hd⟩
  obtain⟨n,h1,h2⟩:=key d hd;exact⟨n,h1,λ_=>h2⟩
 exact⟨0,λd hd=>absurd ⟨d,hd⟩ h,λh'=>absurd h' h⟩
noncomputable def adK(R:Nat->Prop):Nat:=Classical.choose (OD R)
theorem ak5{d:Nat}(h:R d):adK R<=d:=(Classical.choose_spec (OD R)).1 d h
theorem ak6(h:∃d,R d):R (adK R):=(Classical.choose_spec (OD R)).2 h
theorem XT{ops:Array Oper}{rest:List Oper}{dst:Option Tmp}{s x:Operand}{t ty:TypeId}{pos:String}{after:Array Edge}
 (h:wpListIn F n P ops Q ({ dst:=dst,op:=.call { callee:=.builtin .append,args:=#[s,x],argTypes:=#[t,t] },type:=ty,pos:=pos,after:=after,guard:=none }::rest) a w):
 wpListIn F n P ops Q ({ dst:=dst,op:=.call { callee:=.builtin .append,args:=#[s,x],argTypes:=#[t,t] },type:=ty,pos:=pos,after:=after,guard:=none }::rest) a w:=h
