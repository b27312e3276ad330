import Derived.Test.YtgmnnegfndpakaaGreatDoorH03
set_option maxHeartbeats 20000000
set_option maxRecDepth 100000
namespace Go.Proofs.YtgmnnegfndpakaaGreatDoor
open Go.RowKit Go.Proofs.Tryz
variable{l:List aT}{i:Nat}{ch:aT}{p:Prop}
def rV(k:Int)(ns nl s:ByteArray)(n n':Nat):Bool:=
 if k=1 then jJ ns nl&&decide (n=0) else if k=2 then decide (s.size<=200) else if k=3 then true else if k=4 then decide (0<n')&&decide (n=0) else false
def EW(k:Int)(ns nl s:ByteArray)(n n':Nat):Bool:=
 (k==1||(eqS ns ⟨#[]⟩&&eqS nl ⟨#[]⟩))&&(k==2||s.toList.isEmpty)&&decide (n<=1)&&(k==4||decide (n'=0))
mutual
def l7:Nat->aT->Nat->Bool->Nat×Bool×Bool
 | d,.mk k ns nl s ex ar,m,f=>if 10<d\/100<m+1 then (m+1,f,false) else
    let r:=nR (d+1) ex (m+1) (f&&rV k ns nl s ex.length ar.length&&EW k ns nl s ex.length ar.length)
    if r.2.2 then nR (d+1) ar r.1 r.2.1 else r
def nR:Nat->List aT->Nat->Bool->Nat×Bool×Bool
 | _,[],m,f=>(m,f,true)
 | d,c::l,m,f=>let r:=l7 d c m f;if r.2.2 then nR d l r.1 r.2.1 else r
end
mutual
theorem abM:∀(c:aT) (d m:Nat) (f:Bool),m<=100->(l7 d c m f).1<=101/\((l7 d c m f).2.2=true->(l7 d c m f).1<=100)
 | .mk k ns nl s ex ar,d,m,f,hm=>by
   rw[l7]
   split
   ·exact⟨by simp;omega,zP⟩
   have h1:=Vb ex (d+1) (m+1) (f&&rV k ns nl s ex.length ar.length&&EW k ns nl s ex.length ar.length) zO;dsimp only
   split
   ·rename_i h;exact Vb ar (d+1) _ _ (h1.2 h)
   exact h1
theorem Vb:∀(l:List aT) (d m:Nat) (f:Bool),m<=100->(nR d l m f).1<=101/\((nR d l m f).2.2=true->(nR d l m f).1<=100)
 | [],d,m,f,hm=>by rw[nR];exact⟨by simp;omega,λ_=>hm⟩
 | c::l,d,m,f,hm=>by
   rw[nR];have h1:=abM c d m f hm
   split
   ·rename_i h;exact Vb l d _ _ (h1.2 h)
   exact h1
end
theorem Wp(d m:Nat)(f:Bool)(h:l[i]?=ch):
 nR d (l.drop i) m f=(if (l7 d ch m f).2.2 then nR d (l.drop (i+1)) (l7 d ch m f).1 (l7 d ch m f).2.1 else l7 d ch m f):=by
 obtain⟨hi,rfl⟩:=z4.1 h;rw[nZ hi,nR]
def uP(d:Nat):List (List aT)->Nat->Bool->Nat×Bool×Bool
 | [],m,f=>(m,f,true)
 | l::ls,m,f=>if (nR d l m f).2.2 then uP d ls (nR d l m f).1 (nR d l m f).2.1 else nR d l m f
theorem ag9(d:Nat)(l:List aT)(m:Nat)(f:Bool):uP d [l] m f=nR d l m f:=by
 rw[uP]
 split
 ·rename_i h;rw[uP];exact Prod.ext rfl (Prod.ext rfl h.symm)
 rfl
theorem ami(d:Nat)(k:Int)(ns nl s:ByteArray)(ex ar:List aT)(m:Nat)(f:Bool)(h:¬(10<d\/100<m+1)):
 l7 d (.mk k ns nl s ex ar) m f=uP (d+1) [ex,ar] (m+1) (f&&rV k ns nl s ex.length ar.length&&EW k ns nl s ex.length ar.length):=by
 rw[l7,j5 h,uP];dsimp only
 split
 ·rw[ag9]
 rfl
def abk(d:Nat)(ls:List (List aT))(r:Nat×Bool×Bool):Nat×Bool×Bool:=if r.2.2 then uP d ls r.1 r.2.1 else r
theorem amj(k:Int)(ns nl s:ByteArray)(n n':Nat):EW k ns nl s n n'=
 ((eqS (if k=1 then ⟨#[]⟩ else ns) ⟨#[]⟩&&eqS (if k=1 then ⟨#[]⟩ else nl) ⟨#[]⟩)&&(if k=2 then (⟨#[]⟩:ByteArray) else s).toList.isEmpty&&decide (n<=1)&&(k==4||decide (n'=0))):=by
 have e:eqS (⟨#[]⟩:ByteArray) ⟨#[]⟩=true:=iV.2 rfl;unfold EW;by_cases h1:k=1
 ·have h2:¬k=2:=zO;simp[h1,e]
 by_cases h2:k=2
 ·simp[h2]
 have b1:(k==1)=false:=(by simpa using h1);have b2:(k==2)=false:=(by simpa using h2);simp[h1,h2,b1,b2]
def Jw(w:World)(bm bf bk m:Nat)(f:Bool):Prop:=
 w.heap[bm]?=Zc #[m] 3/\w.heap[bf]?=Zc #[f] 4/\
 w.heap[bk]?=Zc #[.func (.func 160) #[] #[(bm,0),(bf,0),(bk,0)]] 203
def Yn(bm bf bk:Nat)(r:Nat×Bool×Bool)(w:World)(e:Ending)(w':World):Prop:=
 e= .returned r.2.2/\Jw w' bm bf bk r.1 r.2.1/\Kept (λb=>b=bm\/b=bf) w w'
theorem Zm(a b:ByteArray)(w:World):
 Rt 161 #[.agg #[a,b]] w (jJ a b):=by
 go_enter func161,ntmps161;go_wp2
 ·have h0:=aa1 (by assumption:b.toList.isEmpty=false);have hx:decide (1<=b.size)=true:=decide_eq_true h0;have hy:((b.size:Int))<=200:=(by assumption);have hz:=zT1 (b.size<=200);go_ret;exact⟨aK (by unfold jJ;rw[hx,hz,m9];simp;omega),(j9 _ _).alloc (zR _) _⟩
 ·go_ret
  exact⟨aK (by have:(200:Int)<(b.size:Int):=by assumption
               have hz:=zT2 (b.size<=200)
               unfold jJ;rw[hz];simp),(j9 _ _).alloc (zR _) _⟩
 have h0:=abH (by assumption:b.toList.isEmpty=true);have hx:decide (1<=b.size)=false:=decide_eq_false zO;go_ret;exact⟨aK (by unfold jJ;rw[hx];rfl),(j9 _ _).alloc (zR _) _⟩
theorem aab(h:p:=by repeat (first | with_reducible exact gW.out | with_reducible exact fC.out | with_reducible exact lG.out | with_reducible exact kz.out | with_reducible exact je.out | with_reducible apply bD | with_reducible apply df | with_reducible apply cZ | with_reducible apply cO | ((with_reducible refine dE ?_ ?_);omega))):p:=h
theorem aaf(h:p:=by first | exact hK | exact hK.setCell (.inl (.inr rfl)) _ | exact(hK.setCell (.inl (.inr rfl)) _).setCell (.inr zP) _ | exact((hK.setCell (.inl (.inr rfl)) _).setCell (.inr zP) _).setCell (.inr zP) _):p:=h
theorem arR (h:p:=by
 first | exact hK2 | exact hK2.setCell (.inl (.inr rfl)) _ | exact(hK2.setCell (.inl (.inr rfl)) _).setCell (.inr zP) _ | exact((hK2.setCell (.inl (.inr rfl)) _).setCell (.inr zP) _).setCell (.inr zP) _):p:=h
theorem arT (h:p:=by
 obtain⟨i1,i2,i3,i4⟩:=HI.out;rw[i1,i2,i3,i4];have hv3:=aC je;refine⟨?_,?_,?_,?_,?_,?_⟩
 ·exact aab
 ·apply Exists.intro;refine And.intro ?_ ?_
  ·exact aab
  simp
 ·exact aab
 ·exact aab
 ·exact aab
 exact aaf):p:=h
theorem walk_any(bm bf bk:Nat)(hmf:bm≠bf)(kV:bm≠bk)(hfk:bf≠bk)(c:aT):∀(cs:List Value) (w:World) (B d m:Nat) (f:Bool),dA w (· <B) c cs->B<=bm->B<=bf->
 Jw w bm bf bk m f->m<=100->d<=11->
 Cl 160 #[.agg cs.toArray,d,(bm,0),(bf,0),(bk,0)] w (Yn bm bf bk (l7 d c m f) w):=by
 induction c using aT.ind with
 | _ k ns nl s ex ar Jv iha=>
   intro cs w B d m f hr0 hBm hBf bZ hm hd;obtain⟨A,n,c,A',n',c',rfl,hl,zS,h1,h2⟩:=hr0.form;obtain⟨O0,HA0⟩:=zJ2 Jv iha;clear Jv iha hr0;have heq:=nO;obtain⟨S1,S2,S3⟩:=bZ;obtain⟨l1,l2,l3,c1,f1⟩:=zK5 (aC S1) (aC S2) (aC S3) (aO S1) (k8 w bm 0 _ _ S1);have e0:(w.setCell bm ((m:Int)+1:Int)).heap.size=w.heap.size:=(by simp[World.setCell]);by_cases Jy:10<d\/100<m+1
   ·have HR:Hid (l7 d (.mk k ns nl s ex ar) m f=(m+1,f,false)):=(by rw[l7,j6 Jy];exact rfl);obtain⟨aQ,gY,vC,E0⟩:=zJ4 S1 S2 S3 e0;clear S1 S2 S3 e0
    rcases (show decide (10<(d:Int))=true\/(decide (10<(d:Int))=false/\decide (100<(m:Int)+1)=true) by simp;omega) with hx | ⟨hx,hy⟩
    all_goals
     clear Jy;go_enter func160,ntmps160;go_wp2_with fail;go_ret;refine⟨aK (by rw[HR.out]),?_,((Kept.refl _ w).setCell (p:=bm) (.inl (.inl rfl)) _).alloc _⟩;rw[HR.out];exact⟨fK (bD aQ),fK (dE (λe=>hmf e.symm) gY),fK (dE (λe=>kV e.symm) vC)⟩
   have gJ:=zT2 (10<(d:Int));have jc:=zT2 (100<(m:Int)+1);obtain⟨w1,bI⟩:=zF (((w.setCell bm ((m:Int)+1:Int)).alloc (Zc #[k,ns,nl,s,(A,n,c),(A',n',c')] 26)).alloc (Zc #[(0:Int),ns,nl,s,(),()] 26));have T1:w1.heap[bm]?=Zc #[((m:Int)+1:Int)] 3:=(by rw[<-bI];exact fK (fK (bD S1)));have T2:w1.heap[bf]?=Zc #[f] 4:=(by rw[<-bI];exact fK (fK (dE (λe=>hmf e.symm) S2)));have T3:w1.heap[bk]?=Zc #[.func (.func 160) #[] #[(bm,0),(bf,0),(bk,0)]] 203:=(by rw[<-bI];exact fK (fK (dE (λe=>kV e.symm) S3)));have TB:w1.heap[w.heap.size]?=Zc #[k,ns,nl,s,(A,n,c),(A',n',c')] 26:=(by rw[<-bI,<-e0];exact heap_alloc2_old _ _ _);have TR:w1.heap[w.heap.size+1]?=Zc #[(0:Int),ns,nl,s,(),()] 26:=(by rw[<-bI,<-e0];exact heap_alloc2_new _ _ _);have hK:Kept (λb=>b=bm\/b=bf) w w1:=(by rw[<-bI];exact(((Kept.refl _ w).setCell (p:=bm) (.inl (.inl rfl)) _).alloc _).alloc _);have bY:=aC TR;have c2:=aO T2;have f2:=k8 w1 bf 0 _ _ T2;obtain⟨q0,q1,q2,q3,q4,q5⟩:=gG TB;obtain⟨r0,r1,r2,r3,r4,r5⟩:=gG TR;obtain⟨g1,g2,g3,aQ,gY,vC,gW,fC⟩:=zK8 (k8 w1 (w.heap.size+1) 1 _ _ TR) (k8 w1 (w.heap.size+1) 2 _ _ TR) (k8 w1 (w.heap.size+1) 3 _ _ TR) (zH S1) (zH S2) (zH S3) (zH T1) (zH T2);obtain⟨lG,kz,je⟩:=zJ3 T3 TB TR;clear S1 S2 S3 T1 T2 T3 TB TR e0;go_enter func160,ntmps160;go_upto_block 0 with fail;have HW:=zH bI;clear bI
   go_cut [] (λwc=>wc.heap[bm]?=Zc #[((m:Int)+1:Int)] 3/\(∃v,wc.heap[bf]?=some (.cells #[.bool v] 4)/\v=(f&&rV k ns nl s n n'))/\
    wc.heap[bk]?=Zc #[.func (.func 160) #[] #[(bm,0),(bf,0),(bk,0)]] 203/\
    wc.heap[w.heap.size]?=Zc #[k,ns,nl,s,(A,n,c),(A',n',c')] 26/\
    wc.heap[w.heap.size+1]?=Zc #[(0:Int),(if k=1 then ⟨#[]⟩ else ns:ByteArray),(if k=1 then ⟨#[]⟩ else nl:ByteArray),(if k=2 then ⟨#[]⟩ else s:ByteArray),(),()] 26/\Kept (λb=>b=bm\/b=bf) w wc)
   case first=>
    rcases apj k with hk | ⟨hk,dm⟩ | ⟨hk,dm,bW⟩ | ⟨hk,dm,bW,jl⟩ | ⟨hk,dm,bW,jl⟩
    ·have fM:k=1:=(by simpa using hk);have xN:¬k=2:=zO
     have HI:Hid (rV k ns nl s n n'=(jJ ns nl&&decide (n=0))/\(if k=1 then (⟨#[]⟩:ByteArray) else ns)=(⟨#[]⟩:ByteArray)/\(if k=1 then (⟨#[]⟩:ByteArray) else nl)=(⟨#[]⟩:ByteArray)/\(if k=2 then (⟨#[]⟩:ByteArray) else s)=s):=by
      unfold rV;rw[j6 fM,j6 fM,j6 fM,j5 xN];exact⟨rfl,rfl,rfl,rfl⟩
     clear fM xN
     cases f with
     | false=>
       go_wp2_with fail;go_meet;obtain⟨i1,i2,i3,i4⟩:=HI.out;rw[i1,i2,i3,i4];have hv3:=aC je;refine⟨?_,?_,?_,?_,?_,?_⟩
       ·exact aab
       ·apply Exists.intro;refine And.intro ?_ ?_
        ·exact aab
        rfl
       ·exact aab
       ·exact aab
       ·exact aab
       exact aaf
     | true=>
       go_wp2_with fail;refine (Zm _ _ _).mono ?_;rintro e3 w2 ⟨rfl,ag⟩;obtain⟨hK2,gW,fC,lG,kz,je⟩:=zK6 (hK.trans (Qh ag)) (zH (ae gW ag)) (zH (ae fC ag)) (zH (ae lG ag)) (zH (ae kz ag)) (zH (ae je ag));clear c2 f2 q0 q1 q2 q3 q4 q5 r0 r1 r2 r3 r4 r5 g1 g2 g3;have c2:=aO fC;have f2:=k8 w2 bf 0 _ _ fC;obtain⟨q0,q1,q2,q3,q4,q5⟩:=gG kz;obtain⟨r0,r1,r2,r3,r4,r5⟩:=gG je;have g1:=k8 w2 (w.heap.size+1) 1 _ _ je;have g2:=k8 w2 (w.heap.size+1) 2 _ _ je;have oW:=aC je
       cases hv:jJ ns nl with
       | false=>
         have HV:=zH hv;clear hv;go_wp2_with fail;go_meet;obtain⟨i1,i2,i3,i4⟩:=HI.out;rw[i1,i2,i3,i4];have hv3:=aC je;refine⟨?_,?_,?_,?_,?_,?_⟩
         ·exact aab
         ·apply Exists.intro;refine And.intro ?_ ?_
          ·exact aab
          rw[HV.out];rfl
         ·exact aab
         ·exact aab
         ·exact aab
         exact arR
       | true=>
         have HV:=zH hv;clear hv;go_wp2_with fail;go_meet;obtain⟨i1,i2,i3,i4⟩:=HI.out;rw[i1,i2,i3,i4];have hv3:=aC je;refine⟨?_,?_,?_,?_,?_,?_⟩
         ·exact aab
         ·apply Exists.intro;refine And.intro ?_ ?_
          ·exact aab
          rw[HV.out,m9];simp<;>omega
         ·exact aab
         ·exact aab
         ·exact aab
         exact arR
    ·have fM:¬k=1:=(by simpa using hk);have xN:k=2:=(by simpa using dm)
     have HI:Hid (rV k ns nl s n n'=(decide (s.size<=200))/\(if k=1 then (⟨#[]⟩:ByteArray) else ns)=ns/\(if k=1 then (⟨#[]⟩:ByteArray) else nl)=nl/\(if k=2 then (⟨#[]⟩:ByteArray) else s)=(⟨#[]⟩:ByteArray)):=by
      unfold rV;rw[j5 fM,j6 xN,j5 fM,j5 fM,j6 xN];exact⟨rfl,rfl,rfl,rfl⟩
     clear fM xN;cases f
     all_goals
      go_wp2_with fail;go_meet;obtain⟨i1,i2,i3,i4⟩:=HI.out;rw[i1,i2,i3,i4];have hv3:=aC je;refine⟨?_,?_,?_,?_,?_,?_⟩
      ·exact aab
      ·apply Exists.intro;refine And.intro ?_ ?_
       ·exact aab
       first | rfl | (simp<;>omega)
      ·exact aab
      ·exact aab
      ·exact aab
      exact aaf
    ·have fM:¬k=1:=(by simpa using hk);have xN:¬k=2:=(by simpa using dm);have Qw:k=3:=(by simpa using bW)
     have HI:Hid (rV k ns nl s n n'=(true)/\(if k=1 then (⟨#[]⟩:ByteArray) else ns)=ns/\(if k=1 then (⟨#[]⟩:ByteArray) else nl)=nl/\(if k=2 then (⟨#[]⟩:ByteArray) else s)=s):=by
      unfold rV;rw[j5 fM,j5 xN,j6 Qw,j5 fM,j5 fM,j5 xN];exact⟨rfl,rfl,rfl,rfl⟩
     clear fM xN Qw;go_wp2_with fail;go_meet;exact arT
    ·have fM:¬k=1:=(by simpa using hk);have xN:¬k=2:=(by simpa using dm);have Qw:¬k=3:=(by simpa using bW);have abN:k=4:=(by simpa using jl)
     have HI:Hid (rV k ns nl s n n'=(decide (0<n')&&decide (n=0))/\(if k=1 then (⟨#[]⟩:ByteArray) else ns)=ns/\(if k=1 then (⟨#[]⟩:ByteArray) else nl)=nl/\(if k=2 then (⟨#[]⟩:ByteArray) else s)=s):=by
      unfold rV;rw[j5 fM,j5 xN,j5 Qw,j6 abN,j5 fM,j5 fM,j5 xN];exact⟨rfl,rfl,rfl,rfl⟩
     clear fM xN Qw abN;cases f
     all_goals
      go_wp2_with fail
     all_goals
      go_meet;obtain⟨i1,i2,i3,i4⟩:=HI.out;rw[i1,i2,i3,i4];have hv3:=aC je;refine⟨?_,?_,?_,?_,?_,?_⟩
      ·exact aab
      ·apply Exists.intro;refine And.intro ?_ ?_
       ·exact aab
       first | rfl | (rw[m9];simp[*]<;>first | omega | (intros;omega))
      ·exact aab
      ·exact aab
      ·exact aab
      exact aaf
    have fM:¬k=1:=(by simpa using hk);have xN:¬k=2:=(by simpa using dm);have Qw:¬k=3:=(by simpa using bW);have abN:¬k=4:=(by simpa using jl)
    have HI:Hid (rV k ns nl s n n'=(false)/\(if k=1 then (⟨#[]⟩:ByteArray) else ns)=ns/\(if k=1 then (⟨#[]⟩:ByteArray) else nl)=nl/\(if k=2 then (⟨#[]⟩:ByteArray) else s)=s):=by
     unfold rV;rw[j5 fM,j5 xN,j5 Qw,j5 abN,j5 fM,j5 fM,j5 xN];exact⟨rfl,rfl,rfl,rfl⟩
    clear fM xN Qw abN;go_wp2_with fail;go_meet;exact arT
   obtain⟨U1,⟨v,U2,hv⟩,U3,UB,UR,hKc⟩:=hcut;have HV:=zH hv;have Jz:=zH (amj k ns nl s n n');obtain⟨a1,CB⟩:=zF ((if k=1 then (⟨#[]⟩:ByteArray) else ns));obtain⟨a2,BJ⟩:=zF ((if k=1 then (⟨#[]⟩:ByteArray) else nl));obtain⟨a3,ha3⟩:=zF ((if k=2 then (⟨#[]⟩:ByteArray) else s));rw[CB,BJ,ha3] at UR Jz;clear hv CB BJ ha3 c2 f2 q0 q1 q2 q3 q4 q5 r0 r1 r2 r3 r4 r5 g1 g2 g3 hK gW fC lG kz je HW bY;have c2:=aO U2;have f2:=k8 wc bf 0 _ _ U2;have bY:=aC UR;obtain⟨q0,q1,q2,q3,q4,q5⟩:=gG UB;obtain⟨r0,r1,r2,r3,r4,r5⟩:=gG UR;obtain⟨gW,fC,lG,kz,je⟩:=zJ5 U1 U2 U3 UB UR;clear U1 U2 U3 UB UR;go_upto_region 17 with fail
   go_cut [] (λwd=>wd.heap[bm]?=Zc #[((m:Int)+1:Int)] 3/\(∃v2,wd.heap[bf]?=some (.cells #[.bool v2] 4)/\v2=(v&&EW k ns nl s n n'))/\
    wd.heap[bk]?=Zc #[.func (.func 160) #[] #[(bm,0),(bf,0),(bk,0)]] 203/\
    wd.heap[w.heap.size]?=Zc #[k,ns,nl,s,(A,n,c),(A',n',c')] 26/\Kept (λb=>b=bm\/b=bf) w wd)
   case first=>
    cases v
    all_goals
     go_wp2_with fail
    all_goals
     go_meet;rw[Jz.out];refine⟨?_,?_,?_,?_,?_⟩
     ·exact aab
     ·apply Exists.intro;refine And.intro ?_ ?_
      ·exact aab
      first | rfl | (rw[m9];simp[*]<;>first | omega | (intros;omega) | (intros;simp_all))
     ·exact aab
     ·exact aab
     exact hKc.setCell (.inl (.inr rfl)) _
   obtain⟨V1,⟨v2,V2,Ue⟩,V3,VB,hKd⟩:=hcut
   have HR:Hid (l7 d (.mk k ns nl s ex ar) m f=uP (d+1) [ex,ar] (m+1) v2):=by
    rw[ami _ _ _ _ _ _ _ _ _ Jy,<-h1.len,<-h2.len,Ue,HV.out];exact rfl
   have sV:Jw wc bm bf bk (m+1) v2:=⟨V1,V2,V3⟩;obtain⟨R,hR⟩:=zF (l7 d (.mk k ns nl s ex ar) m f);have O1:Hid (uP (d+1) [ex,ar] (m+1) v2=R):=(by rw[<-HR.out,hR];exact rfl);have qG:=zH hR;have axI:m+1<=100:=zO;have amk:d<=10:=zO;clear c2 f2 q0 q1 q2 q3 q4 q5 r0 r1 r2 r3 r4 r5;obtain⟨q0,q1,q2,q3,q4,q5⟩:=gG VB;clear V1 V2 V3 VB Ue HR gW fC lG kz je HV Jz hKc bY hR heq gJ jc c1 f1 Jy;go_wp2_with fail
   go_loopw [104] (λsj wr=>∃j m' f',j<=2/\sj= .int .i64 (j:Nat)/\Jw wr bm bf bk m' f'/\m'<=100/\Hid (uP (d+1) ([ex,ar].drop j) m' f'=R)/\Kept (λb=>b=bm\/b=bf) w wr)
    (λsj _=>2 - (intOf sj).toNat)
   case atStart=>exact⟨0,m+1,v2,zO,rfl,sV,axI,O1,hKd⟩
   clear q0 q1 q2 q3 q4 q5;obtain⟨j,m',f',hj,rfl,bZ,O3,HL,hKr⟩:=hrel;by_cases hj2:j<2
   ·have hjd:=zT1 ((j:Int)<2)
    obtain⟨l,Aj,nj,cj,aI,axJ,HI,hnj,Vd⟩:∃l Aj nj cj,jO w (· <B) l Aj nj/\Hid ([ex,ar].drop j=l::[ex,ar].drop (j+1))/\
              Hid (∀c∈l,∀(cs:List Value) (w:World) (B d m:Nat) (f:Bool),dA w (· <B) c cs->B<=bm->B<=bf->Jw w bm bf bk m f->m<=100->d<=11->
               Cl 160 #[.agg cs.toArray,d,(bm,0),(bf,0),(bk,0)] w (Yn bm bf bk (l7 d c m f) w))/\
              nj<6000000000000/\∀W,(Instr.index 204 (.agg #[(A,n,c),(A',n',c')]) (.int .i64 (j:Nat))).run prog W= .ok (Aj,nj,cj) W:=by
     rcases (show j=0\/j=1 by omega) with rfl | rfl
     ·exact⟨ex,A,n,c,h1,zH rfl,O0,hl,λW=>by kernel_rfl⟩
     exact⟨ar,A',n',c',h2,zH rfl,HA0,zS,λW=>by kernel_rfl⟩
    have JA:Hid (abk (d+1) ([ex,ar].drop (j+1)) (nR (d+1) l m' f')=R):=by
     have h:=HL.out;rw[axJ.out,uP] at h;exact h
    go_wp2_with fail
    go_loopw [109] (λsi wi=>∃i mi fi,i<=nj/\si= .int .i64 (i:Nat)/\Jw wi bm bf bk mi fi/\mi<=100/\Hid (abk (d+1) ([ex,ar].drop (j+1)) (nR (d+1) (l.drop i) mi fi)=R)/\Kept (λb=>b=bm\/b=bf) w wi)
     (λsi _=>nj - (intOf si).toNat)
    case atStart=>exact⟨0,m',f',zO,rfl,bZ,O3,JA,hKr⟩
    clear bZ HL JA O3;obtain⟨i,mi,fi,hi,rfl,bZ,O3,HL,hKi⟩:=hrel;by_cases aN:i<nj
    ·obtain⟨b',off,ch,v0,v1,yj,v3,v4,v5,HX,kP,p0,p1,p2,p3,p4,p5,dO⟩:=aI.LU (hKi.below zO (by intro k hk h;omega)) aN cj;obtain⟨hid,T3,hlb,Fg⟩:=zK4 (zT1 (i<nj)) (aO bZ.2.2) (aC bZ.2.2) (aC bZ.1);obtain⟨kx,x1,x2,x3,A3,n3,c3,A4,n4,c4,rfl,rfl,rfl,rfl,rfl,rfl⟩:=kP.shape;go_wp2_with fail;refine (HI ch (qN HX) _ _ B (d+1) mi fi (kP.below ((j9 _ _).alloc zO _)) hBm hBf ⟨fK bZ.1,fK bZ.2.1,fK bZ.2.2⟩ O3 zO).mono ?_;rintro e3 w3 ⟨rfl,ar0,hK3⟩;have hKt:Kept (λb=>b=bm\/b=bf) w w3:=(hKi.alloc _).trans hK3;have hle:=abM ch (d+1) mi fi O3
     cases hv:(l7 (d+1) ch mi fi).2.2 with
     | true=>
       have vw:=zH hv;clear hv;have HLE:=zH hle;clear hle;go_wp2_with fail;go_roundw
       case rel=>exact⟨i+1,_,_,zO,by go_num,ar0,HLE.2 vw,by have h:=HL.out;rw[Wp _ _ _ HX,j6 vw.out] at h;exact h,hKt⟩
       simp[intOf];omega
     | false=>
       have vw:=zH hv;clear hv;have HLE:=zH hle;clear hle
       have HF:Hid (l7 (d+1) ch mi fi=R):=by
        have h:=HL.out;rw[Wp _ _ _ HX,j5 (by rw[vw.out];simp),abk,j5 (by rw[vw.out];simp)] at h;exact h
       go_wp2_with fail;go_ret;refine⟨aK ?_,?_,hKt⟩
       ·rw[qG.out,<-HF.out,vw.out]
       rw[qG.out,<-HF.out];exact ar0
    have hid:=zT2 (i<nj)
    have HL3:Hid (uP (d+1) ([ex,ar].drop (j+1)) mi fi=R):=by
     have zU:l.drop i=[]:=z14 (by have:=aI.len;omega);have h:=HL.out;rw[zU,nR,abk] at h;exact h
    go_wp2_with fail;go_roundw
    case rel=>exact⟨j+1,mi,fi,zO,by go_num,bZ,O3,HL3,hKi⟩
    simp[intOf];omega
   have hjd:=zT2 ((j:Int)<2);obtain rfl:j=2:=zO;have HF:Hid ((m',f',true)=R):=(by have h:=HL.out;rw[show [ex,ar].drop 2=[] from rfl,uP] at h;exact h);go_wp2_with fail;go_ret;refine⟨aK ?_,?_,hKr⟩
   ·rw[qG.out,<-HF.out]
   rw[qG.out,<-HF.out];exact bZ
def xO(c:aT):Int:=if (l7 1 c 0 true).2.2 then (if (l7 1 c 0 true).2.1 then 0 else 2) else 3
theorem aml(bm bf bk:Nat)(hmf:bm≠bf)(kV:bm≠bk)(hfk:bf≠bk)(c:aT)(cs:List Value)(w:World)(B:Nat)(hr:dA w (· <B) c cs)(hBm:B<=bm)(hBf:B<=bf)(bZ:Jw w bm bf bk 0 true):
 Cl 160 #[.agg cs.toArray,(1:Int),(bm,0),(bf,0),(bk,0)] w (Yn bm bf bk (l7 1 c 0 true) w):=
 walk_any bm bf bk hmf kV hfk c cs w B 1 0 true hr hBm hBf bZ zO zO
theorem check_any(c:aT)(cs:List Value)(w:World)(F:Nat->Prop)(hr:dA w F c cs):
 Rt 101 #[.agg cs.toArray] w (xO c):=by
 obtain⟨k,ns,nl,s,ex,ar⟩:=c;obtain⟨A,n,c,A',n',c',rfl,hl,zS,h1,h2⟩:=hr.here.form;obtain⟨w1,bI⟩:=zF ((((w.alloc (Zc #[k,ns,nl,s,(A,n,c),(A',n',c')] 26)).alloc (Zc #[(0:Int)] 3)).alloc (Zc #[true] 4)).alloc (Zc #[.func (.func 160) #[] #[(w.heap.size+1,0),(w.heap.size+1+1,0),(w.heap.size+1+1+1,0)]] 203));have aH:Bw w w1:=(by rw[<-bI];exact((((j9 _ _).alloc (zR _) _).alloc zP _).alloc zS1 _).alloc zS1 _);have e1:(w.alloc (Zc #[k,ns,nl,s,(A,n,c),(A',n',c')] 26)).heap.size=w.heap.size+1:=zS4;have e2:((w.alloc (Zc #[k,ns,nl,s,(A,n,c),(A',n',c')] 26)).alloc (Zc #[(0:Int)] 3)).heap.size=w.heap.size+1+1:=zS4;have e3:(((w.alloc (Zc #[k,ns,nl,s,(A,n,c),(A',n',c')] 26)).alloc (Zc #[(0:Int)] 3)).alloc (Zc #[true] 4)).heap.size=w.heap.size+1+1+1:=zS4;have TB:w1.heap[w.heap.size]?=Zc #[k,ns,nl,s,(A,n,c),(A',n',c')] 26:=(by rw[<-bI];exact fK (fK (fK (heap_alloc_new _ _))));have T1:w1.heap[w.heap.size+1]?=Zc #[((0:Nat):Int)] 3:=(by rw[<-bI,<-e1];exact fK (fK (heap_alloc_new _ _)));have T2:w1.heap[w.heap.size+1+1]?=Zc #[true] 4:=(by rw[<-bI,<-e2];exact fK (heap_alloc_new _ _));have T3:w1.heap[w.heap.size+1+1+1]?=Zc #[.func (.func 160) #[] #[(w.heap.size+1,0),(w.heap.size+1+1,0),(w.heap.size+1+1+1,0)]] 203:=(by rw[<-bI,<-e3];exact heap_alloc_new _ _);have bZ:Jw w1 (w.heap.size+1) (w.heap.size+1+1) (w.heap.size+1+1+1) 0 true:=⟨T1,T2,T3⟩;obtain⟨q0,c3,sV,CE⟩:=zK4 (gG TB) (aO T3) (zH bZ) (zH (hr.here.below aH));clear T1 T2 T3 TB bZ e1 e2 e3 hr;go_enter func101,ntmps101;go_wp2_with fail;have HW:=zH bI;clear bI;refine (aml _ _ _ zO zO zO _ _ _ w CE zO zO sV).mono ?_;rintro e w2 ⟨rfl,KY,hK⟩;have ag:Bw w w2:=aH.trans (hK.below aH.size (by intro k hk h;omega));have d2:=aO KY.2.1;obtain⟨r,hr⟩:=zF (l7 1 (.mk k ns nl s ex ar) 0 true);have HC:Hid (xO (.mk k ns nl s ex ar)=(if r.2.2 then (if r.2.1 then 0 else 2) else 3)):=(by unfold xO;rw[hr];exact rfl);rw[hr] at d2 ⊢;have HR:=zH hr;clear hr KY q0 c3;obtain⟨rm,rf,rk⟩:=r;dsimp only at d2 ⊢;cases rk
 ·go_wp2_with fail;go_ret;exact⟨iU (by rw[HC.out];rfl),ag⟩
 cases rf
 all_goals
  go_wp2_with fail;go_ret;exact⟨iU (by rw[HC.out];rfl),ag⟩
mutual
def pK:aT->ByteArray->ByteArray->Bool
 | .mk k ns nl s ex ar,a,b=>!F8 ex a b&&(if k=1 then eqS ns a&&eqS nl b else if k=2 then eqS s a else if k=4 then F8 ar a b else true)
def F8:List aT->ByteArray->ByteArray->Bool
 | [],_,_=>false
 | c::l,a,b=>pK c a b||F8 l a b
end
def IB:List aT->ByteArray->ByteArray->Nat->Int
 | [],_,_,_=>-1
 | c::l,a,b,i=>if pK c a b then i else IB l a b (i+1)
theorem aeX(l:List aT)(a b:ByteArray):∀i,decide (0<=IB l a b i)=F8 l a b:=by
 induction l with
 | nil=>intro i;simp[IB,F8]
 | cons c l ih=>
   intro i;rw[IB,F8];cases pK c a b
   ·simpa using ih (i+1)
   simp
theorem Zn{a b:ByteArray}(h:l[i]?=ch):IB (l.drop i) a b i=if pK ch a b then (i:Int) else IB (l.drop (i+1)) a b (i+1):=by
 obtain⟨hi,rfl⟩:=z4.1 h;rw[nZ hi,IB]
theorem arj(k:Int):(k==1)=true\/((k==1)=false/\(k==2)=true)\/((k==1)=false/\(k==2)=false/\(k==4)=true)\/((k==1)=false/\(k==2)=false/\(k==4)=false):=by
 cases (k==1)<;>cases (k==2)<;>cases (k==4)<;>simp
def amm(bn:Nat)(a b:ByteArray)(ch:aT):Prop:=∀(cs:List Value) (w:World) (F:Nat->Prop),dA w F ch cs->w.heap[bn]?=Zc #[a,b] 23->
 Cl 223 #[.agg cs.toArray,(bn,0)] w λe w'=>e= .returned (pK ch a b)/\Bw w w'
theorem ark(bn:Nat)(a b:ByteArray)(l:List aT)(A:Option Addr)(n c:Nat)(w:World)(F:Nat->Prop)(bQ:jO w F l A n)(hn:n<6000000000000)
 (Fh:w.heap[bn]?=Zc #[a,b] 23) (hf:∀ch∈l,amm bn a b ch):
 Rt 241 #[(A,n,c),.func (.func 223) #[] #[(bn,0)]] w (IB l a b 0):=by
 obtain⟨aI,HF,HB⟩:=zK3 bQ.here (zH hf) (zH Fh);clear hf bQ Fh;go_enter func241,ntmps241;go_wp2_with fail
 go_loopw [8] (λsi wr=>∃i:Nat,i<=n/\si= i/\Hid (IB l a b 0=IB (l.drop i) a b i)/\Bw w wr)
  (λsi _=>n - (intOf si).toNat)
 case atStart=>exact⟨0,zO,rfl,zH rfl,j9 _ _⟩
 obtain⟨i,hi,rfl,HL,aH⟩:=hrel;by_cases aN:i<n
 ·obtain⟨b',off,ch,v0,v1,v2,v3,v4,v5,HX,kP,p0,p1,p2,p3,p4,p5,dO⟩:=aI.round aH aN c;have hd:=zT1 (i<n);go_wp2_with fail;refine (HF ch (qN HX) _ _ _ kP (ae HB aH)).mono ?_;rintro e3 w3 ⟨rfl,az⟩
  cases hv:pK ch a b with
  | true=>
    have HV:=zH hv;clear hv;go_wp2_with fail;go_ret;exact⟨iU (by rw[HL.out,Zn HX,j6 HV.out]),aH.trans (az.mono aH.size)⟩
  | false=>
    have HV:=zH hv;clear hv;go_wp2_with fail;go_roundw
    case rel=>exact⟨i+1,zO,by go_num,zH (by rw[HL.out,Zn HX,HV.out];rfl),aH.trans (az.mono aH.size)⟩
    simp[intOf];omega
 have hd:=zT2 (i<n);have zU:l.drop i=[]:=z14 (by have:=aI.len;omega);have HE:=zH zU;clear zU;go_wp2_with fail;go_ret;exact⟨iU (by rw[HL.out,HE.out,IB]),aH⟩
theorem Qx(bn:Nat)(a b:ByteArray)(l:List aT)(A:Option Addr)(n c:Nat)(w:World)(F:Nat->Prop)(aI:jO w F l A n)(hn:n<6000000000000)
 (Fh:w.heap[bn]?=Zc #[a,b] 23) (hf:∀ch∈l,amm bn a b ch):
 Rt 224 #[(A,n,c),.func (.func 223) #[] #[(bn,0)]] w (F8 l a b):=by
 obtain⟨HF,HB⟩:=zJ2 hf Fh;clear hf Fh;go_enter func224,ntmps224;go_wp2_with fail;refine (ark bn a b l A n c w F aI hn HB HF).mono ?_;rintro e w2 ⟨rfl,ag⟩;go_wp2_with fail;go_ret;exact⟨aK (aeX l a b 0),ag⟩
theorem arl(a b:ByteArray)(c:aT):∀(cs:List Value) (w:World) (F:Nat->Prop),dA w F c cs->
 Rt 191 #[.agg cs.toArray,.agg #[a,b]] w (pK c a b):=by
 induction c using aT.ind with
 | _ k ns nl s ex ar Jv iha=>
   intro cs w F hr0;obtain⟨A,n,c,A',n',c',rfl,hl,zS,h1,h2⟩:=hr0.here.form
   have oP:∀(l:List aT),(∀ch∈l,∀(cs:List Value) (w:World) (F:Nat->Prop),dA w F ch cs->
    Rt 191 #[.agg cs.toArray,.agg #[a,b]] w (pK ch a b))->∀bn,∀ch∈l,amm bn a b ch:=by
    intro l ih bn ch hch cs W F hr Fh;obtain⟨ke,nse,nle,se,exe,are⟩:=ch;obtain⟨Ae,ne,ce,Ae',ne',ce',rfl,-,-,-,-⟩:=hr.form;have HI:=zH (ih _ hch _ _ _ hr.here);have aN:=aC Fh;obtain⟨n0,n1⟩:=dw Fh;have HB:=zH Fh;have HR:=zH hr.here;have rZ:=zH (ih _ hch);clear ih hr hch Fh;go_enter func223,ntmps223;go_wp2_with fail;refine (rZ _ _ _ (HR.below ((j9 _ _).alloc (zR _) _))).mono ?_;rintro e w2 ⟨rfl,ag⟩;have dY:=((j9 _ W).alloc (zR _) _).trans (ag.mono zP);go_wp2_with fail;go_ret;exact⟨rfl,dY⟩
   have HE:=zH (oP ex Jv);have HA:=zH (oP ar iha);clear Jv iha hr0 oP;have heq:=nO;have hes:=Yl;obtain⟨w1,bI,ai,ag,bY,aH⟩:=ed w (Zc #[k,ns,nl,s,(A,n,c),(A',n',c')] 26) (Zc #[a,b] 23);obtain⟨q0,q1,q2,q3,q4,q5⟩:=gG ai;obtain⟨H1,H2⟩:=zJ2 ai ag;clear ai ag;go_enter func191,ntmps191;go_wp2_with fail;have HW:=zH bI;clear bI;refine (Qx _ a b ex A n c _ _ (h1.below aH) hl H2 (HE _)).mono ?_;rintro e w2 ⟨rfl,ag⟩;have mX:=aH.seq ag;clear q0 q1 q2 q3 q4 q5;have DU:=zH (ae H1 ag);have um:=zH (ae H2 ag);obtain⟨q0,q1,q2,q3,q4,q5⟩:=gG DU;obtain⟨n0,n1⟩:=dw um
   cases hv:F8 ex a b with
   | true=>
     have HR:Hid (pK (.mk k ns nl s ex ar) a b=false):=(by rw[pK,hv];exact rfl);clear hv;go_wp2_with fail;go_ret;exact⟨aK HR.symm,mX⟩
   | false=>
     have HR:Hid (pK (.mk k ns nl s ex ar) a b=(if k=1 then eqS ns a&&eqS nl b else if k=2 then eqS s a else if k=4 then F8 ar a b else true)):=(by rw[pK,hv];exact rfl);clear hv
     rcases arj k with hk | ⟨hk,dm⟩ | ⟨hk,dm,bW⟩ | ⟨hk,dm,bW⟩
     ·go_wp2_with fail;go_ret;exact⟨aK (by rw[HR.out,j6 (by simpa using hk)]),mX⟩
     ·go_wp2_with fail;go_ret;exact⟨aK (by rw[HR.out,j5 (by simpa using hk),j6 (by simpa using dm)]),mX⟩
     ·go_wp2_with fail;refine (Qx _ a b ar A' n' c' _ _ (h2.below mX) zS um (HA _)).mono ?_;rintro e w3 ⟨rfl,az⟩;have Ep:=mX.seq az;go_wp2_with fail;go_ret;exact⟨aK (by rw[HR.out,j5 (by simpa using hk),j5 (by simpa using dm),j6 (by simpa using bW)]),Ep⟩
     go_wp2_with fail;go_ret;exact⟨aK (by rw[HR.out,j5 (by simpa using hk),j5 (by simpa using dm),j5 (by simpa using bW)]),mX⟩
