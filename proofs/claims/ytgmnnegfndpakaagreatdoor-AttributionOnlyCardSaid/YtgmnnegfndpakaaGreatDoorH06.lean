import Derived.Test.YtgmnnegfndpakaaGreatDoorH04
import Derived.Test.YtgmnnegfndpakaaGreatDoorH05
set_option maxHeartbeats 20000000
set_option maxRecDepth 100000
namespace Go.Proofs.YtgmnnegfndpakaaGreatDoor
open Go.RowKit Go.Proofs.Tryz
variable{w w':World}{F F':Nat->Prop}{c:aT}{cs:List Value}{v u:Value}{sz b off n base B i g:Nat}{l:List aT}{A:Option Addr}{e t:TypeId}{k:Int}{fr:Nat×Nat}
def jF(c:aT):Int:=if 100<ni 10 c then 3 else if rU c then 0 else 2
theorem ajm(c:aT)(cs:List Value)(w:World)(F:Nat->Prop)(h:dA w F c cs):
 Rt 139 #[.agg cs.toArray,(10:Int)] w (ni 10 c):=count_any 10 c cs w F h zO
theorem Qz(c:aT)(cs:List Value)(w:World)(F:Nat->Prop)(hr:dA w F c cs):
 Rt 71 #[.agg cs.toArray] w (jF c):=by
 obtain⟨N,hN⟩:=zF (ni 10 c);obtain⟨v,hv⟩:=zF (rU c);have HR:Hid (jF c=if 100<N then 3 else if v then 0 else 2):=zH (by unfold jF;rw[hN,hv]);have c53:=λw F h=>ajm c cs w F h;have c54:=λw F h=>ag8 c cs w F h;rw[hN] at c53;rw[hv] at c54;obtain⟨C53,C54⟩:=zJ2 c53 c54;clear c53 c54 hN hv;obtain⟨k,ns,nl,s,ex,ar⟩:=c;obtain⟨A,n,c,A',n',c',rfl,-,-,-,-⟩:=hr.here.form;obtain⟨w1,bI,hblk,bY,ai⟩:=af w (Zc #[k,ns,nl,s,(A,n,c),(A',n',c')] 26);have O1:=zH (hr.here.below ai);have q0:=gG hblk;have HB:=zH hblk;clear hblk hr;go_enter func71,ntmps71;go_wp2_with fail;refine (C53 w1 _ O1).mono ?_;rintro e w2 ⟨rfl,ag⟩;clear q0;have q0:=gG (ae HB ag);by_cases h1:100<N
 ·have hd:=zT1 (100<(N:Int));go_wp2_with fail;go_ret;exact⟨iU (by rw[HR.out,j6 h1]),ai.seq ag⟩
 have hd:=zT2 (100<(N:Int));go_wp2_with fail;refine (C54 w2 _ (O1.below (ag.mono zO))).mono ?_;rintro e w3 ⟨rfl,az⟩;cases v
 all_goals
  go_wp2_with fail;go_ret;exact⟨iU (by rw[HR.out,j5 h1];rfl),ai.seq (ag.seq az)⟩
theorem dA.cells(h:dA w F c cs):
 ∃k ns nl s A n c0 A' n' LW,cs=[.int .i64 k,.string ns,.string nl,.string s,.slice A n c0,.slice A' n' LW]:=by
 obtain⟨k,ns,nl,s,ex,ar⟩:=c;obtain⟨A,n,c,A',n',c',rfl,_⟩:=h.form;exact⟨_,_,_,_,_,_,_,_,_,_,rfl⟩
theorem abl{W w1:World}(hb:Bw W w1):(∀b o,b<W.heap.size->w1.cell? ⟨b,o,none⟩=W.cell? ⟨b,o,none⟩)/\(∀b o,b<W.heap.size->w1.frozen? ⟨b,o,none⟩=W.frozen? ⟨b,o,none⟩):=
 ⟨λb o h=>hb.cell (p:=⟨b,o,none⟩) h,λb o h=>hb.frozen (p:=⟨b,o,none⟩) h⟩
theorem IC{v:Int}(c:aT)(cs:List Value)(w:World)(F:Nat->Prop)(hr:dA w F c cs)(hv:jF c=v):
 Rt 71 #[.agg cs.toArray] w v:=by subst hv;exact Qz c cs w F hr
theorem Fj{v:Int}(c:aT)(cs:List Value)(w:World)(F:Nat->Prop)(hr:dA w F c cs)(hv:xO c=v):
 Rt 101 #[.agg cs.toArray] w v:=by subst hv;exact check_any c cs w F hr
theorem Yo{v:Bool}(a b:ByteArray)(c:aT)(cs:List Value)(w:World)(F:Nat->Prop)(h:dA w F c cs)(hv:pK c a b=v):
 Rt 191 #[.agg cs.toArray,.agg #[a,b]] w v:=by
 subst hv;exact arl a b c cs w F h
theorem ajn{v:Bool}(a b:ByteArray)(w:World)(hv:jJ a b=v):
 Rt 161 #[.agg #[a,b]] w v:=by subst hv;exact Zm a b w
theorem aha{v:Bool}(a b:ByteArray)(w:World)(hv:jJ a b=v):
 Rt 156 #[.agg #[a,b]] w v:=by subst hv;exact Zl a b w
def xg(e:Int)(v i:Bool):Bool×Int:=if e=0 then (if v then (i,0) else (false,2)) else (false,e)
theorem axK(a b:ByteArray)(c:aT)(cs:List Value)(w:World)(F:Nat->Prop)(hr:dA w F c cs):
 Rt 94 #[.agg cs.toArray,.agg #[a,b]] w (.tuple #[(xg (jF c) (jJ a b) (vk c a b)).1,(xg (jF c) (jJ a b) (vk c a b)).2]):=by
 obtain⟨ec,yJ⟩:=zF (jF c);obtain⟨vv,DV⟩:=zF (jJ a b);obtain⟨iv,CJ⟩:=zF (vk c a b);rw[yJ,DV,CJ];obtain⟨HEC,QA,HIV⟩:=zJ3 yJ DV CJ;clear yJ DV CJ;have Aq:=hr.here;obtain⟨k,ns,nl,s,A,n,c0,A',n',LW,rfl⟩:=hr.cells;obtain⟨w1,bI,S1,S2,bY,ai⟩:=ed w (Zc #[k,ns,nl,s,(A,n,c0),(A',n',LW)] 26) (Zc #[a,b] 23);have HR:=zH (Aq.below ai);have p0:=gG S1;have r0:=dw S2;have ar6:w.heap.size<w1:=zO;clear S1 S2 hr Aq;by_cases he:ec=0
 ·subst he;have Ar:((0:Int) !=0)=false:=rfl;cases vv
  all_goals
   go_enter func94,ntmps94;go_wp2_with fail;refine (IC c _ w1 _ HR HEC).mono ?_;rintro e w2 ⟨rfl,ag⟩;obtain⟨Wu,hf2⟩:=abl ag;go_wp2_with fail;refine (aha a b w2 QA).mono ?_;rintro e w3 ⟨rfl,az⟩;obtain⟨hc3,hf3⟩:=abl az;have oW:=ag.size;have ny:w.heap.size<w2:=zO;have hz4:w.heap.size+1<w2:=zO;go_wp2_with fail
  ·go_ret2
   exact⟨rfl,ai.seq (ag.seq az)⟩
  refine (arV a b c _ w3 _ ((HR.below (ag.mono zO)).below (az.mono zO)) HIV).mono ?_;rintro e w4 ⟨rfl,aX⟩;go_wp2_with fail
  go_ret2
  exact⟨rfl,ai.seq (ag.seq (az.seq aX))⟩
 have Ar:(ec !=0)=true:=(by simpa using he);have HE:Hid (xg ec vv iv=(false,ec)):=zH (by unfold xg;rw[j5 he]);go_enter func94,ntmps94;go_wp2_with fail;refine (IC c _ w1 _ HR HEC).mono ?_;rintro e w2 ⟨rfl,ag⟩;clear he;go_wp2_with fail
 go_ret2
 exact⟨by rw[HE.out];rfl,ai.seq ag⟩
theorem arn(a b:ByteArray)(c:aT)(cs:List Value)(w:World)(F:Nat->Prop)(hr:dA w F c cs):
 Rt 155 #[.agg cs.toArray,.agg #[a,b]] w (.tuple #[(xg (xO c) (jJ a b) (pK c a b)).1,(xg (xO c) (jJ a b) (pK c a b)).2]):=by
 obtain⟨ec,yJ⟩:=zF (xO c);obtain⟨vv,DV⟩:=zF (jJ a b);obtain⟨iv,CJ⟩:=zF (pK c a b);rw[yJ,DV,CJ];obtain⟨HEC,QA,HIV⟩:=zJ3 yJ DV CJ;clear yJ DV CJ;have Aq:=hr.here;obtain⟨k,ns,nl,s,A,n,c0,A',n',LW,rfl⟩:=hr.cells;obtain⟨w1,bI,S1,S2,bY,ai⟩:=ed w (Zc #[k,ns,nl,s,(A,n,c0),(A',n',LW)] 26) (Zc #[a,b] 23);have HR:=zH (Aq.below ai);have p0:=gG S1;have r0:=dw S2;have ar6:w.heap.size<w1:=zO;clear S1 S2 hr Aq;by_cases he:ec=0
 ·subst he;have Ar:((0:Int) !=0)=false:=rfl;cases vv
  all_goals
   go_enter func155,ntmps155;go_wp2_with fail;refine (Fj c _ w1 _ HR HEC).mono ?_;rintro e w2 ⟨rfl,ag⟩;obtain⟨Wu,hf2⟩:=abl ag;go_wp2_with fail;refine (ajn a b w2 QA).mono ?_;rintro e w3 ⟨rfl,az⟩;obtain⟨hc3,hf3⟩:=abl az;have oW:=ag.size;have ny:w.heap.size<w2:=zO;have hz4:w.heap.size+1<w2:=zO;go_wp2_with fail
  ·go_ret2
   exact⟨rfl,ai.seq (ag.seq az)⟩
  refine (Yo a b c _ w3 _ ((HR.below (ag.mono zO)).below (az.mono zO)) HIV).mono ?_;rintro e w4 ⟨rfl,aX⟩;go_wp2_with fail
  go_ret2
  exact⟨rfl,ai.seq (ag.seq (az.seq aX))⟩
 have Ar:(ec !=0)=true:=(by simpa using he);have HE:Hid (xg ec vv iv=(false,ec)):=zH (by unfold xg;rw[j5 he]);go_enter func155,ntmps155;go_wp2_with fail;refine (Fj c _ w1 _ HR HEC).mono ?_;rintro e w2 ⟨rfl,ag⟩;clear he;go_wp2_with fail
 go_ret2
 exact⟨by rw[HE.out];rfl,ai.seq ag⟩
inductive D where
 | val (v:Value)
 | sl (sz:Nat) (es:List (List D))
mutual
def gI(w:World)(F:Nat->Prop):D->Value->Prop
 | .val v,u=>u=v
 | .sl sz es,u=>∃A c,u= .slice A es.length c/\es.length<6000000000000/\(0<es.length->∃b off,A=some ⟨b,off,none⟩/\F b/\bK w F sz es b off)
def bK(w:World)(F:Nat->Prop)(sz:Nat):List (List D)->Nat->Nat->Prop
 | [],_,_=>True
 | e::es,b,off=>(∃cs,cu w b off cs/\au w F e cs)/\bK w F sz es b (off+sz)
def au(w:World)(F:Nat->Prop):List D->List Value->Prop
 | [],cs=>cs=[]
 | d::ds,cs=>∃v r,cs=v::r/\gI w F d v/\au w F ds r
end
theorem gI.rq:gI w F (.val v) u↔u=v:=by rw[gI]
theorem gI.LX{es:List (List D)}:gI w F (.sl sz es) u↔∃A c,u= .slice A es.length c/\es.length<6000000000000/\(0<es.length->∃b off,A=some ⟨b,off,none⟩/\F b/\bK w F sz es b off):=by rw[gI]
theorem au.oL:au w F [] cs↔cs=[]:=by rw[au]
theorem au.gu{d:D}{ds:List D}:au w F (d::ds) cs↔∃v r,cs=v::r/\gI w F d v/\au w F ds r:=by rw[au]
theorem bK.gu{e:List D}{es:List (List D)}:bK w F sz (e::es) b off↔(∃cs,cu w b off cs/\au w F e cs)/\bK w F sz es b (off+sz):=by rw[bK]
theorem au.len:∀{ds:List D} {cs:List Value},au w F ds cs->cs.length=ds.length
 | [],cs,h=>by rw[au.oL] at h;rw[h];rfl
 | d::ds,cs,h=>by
   rw[au.gu] at h;obtain⟨v,r,rfl,_,hr⟩:=h;rw[z9,z9,hr.len]
mutual
theorem gI.keep(hF:∀b,F b->F' b/\w'.heap[b]?=w.heap[b]?):∀(d:D) (v:Value),gI w F d v->gI w' F' d v
 | .val v,u,h=>by rw[gI] at h ⊢;exact h
 | .sl sz es,u,h=>by
   rw[gI] at h ⊢;obtain⟨A,c,e,hl,h1⟩:=h;refine⟨A,c,e,hl,λhp=>?_⟩;obtain⟨b,off,ha,hb,hr⟩:=h1 hp;exact⟨b,off,ha,(hF b hb).1,bK.keep hF sz es b off (hF b hb).2 hr⟩
theorem bK.keep(hF:∀b,F b->F' b/\w'.heap[b]?=w.heap[b]?)(sz:Nat):∀(es:List (List D)) (b off:Nat),w'.heap[b]?=w.heap[b]?->bK w F sz es b off->bK w' F' sz es b off
 | [],_,_,_,_=>by rw[bK];trivial
 | e::es,b,off,hb,h=>by
   rw[bK] at h ⊢;obtain⟨⟨cs,hc,hr⟩,hl⟩:=h;exact⟨⟨cs,hc.keep hb,au.keep hF e cs hr⟩,bK.keep hF sz es b (off+sz) hb hl⟩
theorem au.keep(hF:∀b,F b->F' b/\w'.heap[b]?=w.heap[b]?):∀(ds:List D) (cs:List Value),au w F ds cs->au w' F' ds cs
 | [],_,h=>by rw[au] at h ⊢;exact h
 | d::ds,cs,h=>by
   rw[au] at h ⊢;obtain⟨v,r,e,h1,h2⟩:=h;exact⟨v,r,e,gI.keep hF d v h1,au.keep hF ds r h2⟩
end
theorem bK.get:∀{es:List (List D)} {b off:Nat} (_:bK w F sz es b off) (i:Nat) (e:List D),es[i]?=e->∃cs,cu w b (off+i*sz) cs/\au w F e cs
 | [],b,off,h,i,c,hi=>by simp at hi
 | c::l,b,off,h,0,c',hi=>by
   rw[bK] at h;obtain rfl:c=c':=(by simpa using hi);simpa using h.1
 | c::l,b,off,h,i+1,c',hi=>by
   rw[bK] at h;have:=h.2.get i c' (by simpa using hi);rwa [show off+sz+i*sz=off+(i+1)*sz by rw[Nat.add_mul];omega] at this
theorem bK.Wv:∀{es:List (List D)} {b off:Nat},(∀(i:Nat) (e:List D),es[i]?=e->∃cs,cu w b (off+i*sz) cs/\au w F e cs)->bK w F sz es b off
 | [],b,off,h=>by rw[bK];trivial
 | c::l,b,off,h=>by
   rw[bK];refine⟨by simpa using h 0 c rfl,bK.Wv λi e he=>?_⟩;have:=h (i+1) e (by simpa using he);rwa [show off+(i+1)*sz=off+sz+i*sz by rw[Nat.add_mul];omega] at this
def wC:aT->List D
 | .mk k ns nl s ex ar=>[.val k,.val ns,.val nl,.val s,.sl 6 (abO ex),.sl 6 (abO ar)]
where abO:List aT->List (List D)
 | []=>[]
 | c::l=>wC c::abO l
theorem Ny(l:List aT):wC.abO l=l.map wC:=by
 induction l with
 | nil=>rfl
 | cons c l ih=>rw[wC.abO,ih,Jm]
theorem Es(k:Int)(ns nl s:ByteArray)(ex ar:List aT):wC (.mk k ns nl s ex ar)=[.val (.int .i64 k),.val (.string ns),.val (.string nl),.val (.string s),.sl 6 (ex.map wC),.sl 6 (ar.map wC)]:=by
 rw[wC,Ny,Ny]
theorem abP(c:aT):(wC c).length=6:=by cases c;rw[Es];rfl
mutual
theorem Vf(w:World)(F:Nat->Prop):∀(c:aT) (cs:List Value),dA w F c cs↔au w F (wC c) cs
 | .mk k ns nl s ex ar,cs=>by
   rw[dA,Es];simp only[au.gu,au.oL,gI.rq,gI.LX,z8];constructor
   ·rintro⟨A,c,A',c',rfl,h1,h2,h3,h4⟩;refine⟨_,_,rfl,rfl,_,_,rfl,rfl,_,_,rfl,rfl,_,_,rfl,rfl,_,_,rfl,⟨A,c,rfl,h1,λhp=>?_⟩,_,_,rfl,⟨A',c',rfl,h2,λhp=>?_⟩,rfl⟩
    ·obtain⟨b,off,e,hb,hr⟩:=h3 hp;exact⟨b,off,e,hb,(IE w F ex b off).1 hr⟩
    obtain⟨b,off,e,hb,hr⟩:=h4 hp;exact⟨b,off,e,hb,(IE w F ar b off).1 hr⟩
   rintro⟨_,_,rfl,rfl,_,_,rfl,rfl,_,_,rfl,rfl,_,_,rfl,rfl,_,_,rfl,⟨A,c,rfl,h1,h3⟩,_,_,rfl,⟨A',c',rfl,h2,h4⟩,rfl⟩;refine⟨A,c,A',c',rfl,h1,h2,λhp=>?_,λhp=>?_⟩
   ·obtain⟨b,off,e,hb,hr⟩:=h3 hp;exact⟨b,off,e,hb,(IE w F ex b off).2 hr⟩
   obtain⟨b,off,e,hb,hr⟩:=h4 hp;exact⟨b,off,e,hb,(IE w F ar b off).2 hr⟩
theorem IE(w:World)(F:Nat->Prop):∀(l:List aT) (b off:Nat),jq w F l b off↔bK w F 6 (l.map wC) b off
 | [],_,_=>by rw[jq,List.map_nil,bK]
 | c::l,b,off=>by
   rw[jq,Jm,bK,IE w F l b (off+6)];constructor
   ·rintro⟨⟨cs,h1,h2⟩,h3⟩;exact⟨⟨cs,h1,(Vf w F c cs).1 h2⟩,h3⟩
   rintro⟨⟨cs,h1,h2⟩,h3⟩;exact⟨⟨cs,h1,(Vf w F c cs).2 h2⟩,h3⟩
end
theorem aKm:jO w F l A n↔n=l.length/\(0<l.length->∃b off,A=some ⟨b,off,none⟩/\F b/\bK w F 6 (l.map wC) b off):=by
 unfold jO;simp only[IE]
abbrev rE (sz:Nat):={ l:List Value // l.length=sz/\∀u∈l,u.oneCell'=true }
def cN(x:rE sz):List Value:=x.1
theorem abQ(x:rE sz):(cN x).length=sz:=x.2.1
theorem ajp(l:List (rE sz)):∀u∈l.flatMap cN,u.oneCell'=true:=by
 intro u hu;obtain⟨x,_,hx⟩:=List.mem_flatMap.1 hu;exact x.2.2 u hx
def abR(w:World)(base:Nat)(e:TypeId)(sz:Nat)(es:List (List D))(v:Value):Prop:=
 ∃xs:List (rE sz),ax w base e sz cN xs v/\xs.length=es.length/\∀(i:Nat) (d:List D) (x:rE sz),es[i]?=d->xs[i]?=x->au w (λb=>base<=b/\b<w/\some b≠v.ownBlock) d x.1
theorem abR.nil(w:World)(base:Nat)(e:TypeId)(sz:Nat):abR w base e sz [] ():=⟨[],ax.nil _ _ _ _ _,rfl,λi d x h=>by simp at h⟩
theorem abR.keep{es:List (List D)}(h:abR w base e sz es v)(hb:Bw w w'):abR w' base e sz es v:=by
 obtain⟨xs,h1,h2,h3⟩:=h;exact⟨xs,h1.keep hb,h2,λi d x hd hx=>(h3 i d x hd hx).keep (λb hF=>⟨⟨hF.1,d4 hF.2.1 hb.size,hF.2.2⟩,hb.block b hF.2.1⟩)⟩
theorem abR.block{es:List (List D)}(h:abR w base e sz es v):∀k,some k=v.ownBlock->base<=k/\k<w.heap.size:=by
 obtain⟨xs,h1,_⟩:=h;exact aS h1
theorem abR.row{es:List (List D)}(h:abR w base e sz es v)(bY:0<sz)(hF2:∀b,base<=b->b<w.heap.size->F b):
 ∃A c,v= .slice A es.length c/\(0<es.length->∃b off,A=some ⟨b,off,none⟩/\F b/\bK w F sz es b off)/\es.length<=c/\c<=maxLen:=by
 obtain⟨xs,h1,h2,h3⟩:=h;obtain⟨A,c,hv,aI,hc,hm⟩:=h1.row abQ bY;rw[h2] at hv hc;refine⟨A,c,hv,λhp=>?_,hc,hm⟩;obtain⟨b,off,hA,⟨ai,ag⟩,hr⟩:=aI.2 zO;refine⟨b,off,hA,hF2 b ai ag,bK.Wv λi d hd=>?_⟩;have hi:i<xs.length:=(by rw[h2];exact(z4.1 hd).1);exact⟨_,hr i xs[i] (z6 hi),(h3 i d xs[i] hd (z6 hi)).keep λb hb=>⟨hF2 b hb.1 hb.2.1,rfl⟩⟩
theorem afA:∀{c:aT} {cs:List Value},dA w F c cs->cs.length=6/\∀u∈cs,u.oneCell'=true:=by
 intro c cs h;obtain⟨k,ns,nl,s,A,n,c0,A',n',LW,rfl⟩:=h.cells;refine⟨rfl,?_⟩;intro u hu;simp only[TT,List.not_mem_nil,or_false] at hu
 rcases hu with rfl | rfl | rfl | rfl | rfl | rfl<;>rfl
abbrev aMY (w:World) (base:Nat) (l:List aT) (v:Value):Prop:=abR w base 26 6 (l.map wC) v
theorem aMY.ahn(h:aMY w base l v)(hF2:∀b,base<=b->b<w.heap.size->F b):
 ∃A c,v= .slice A l.length c/\jO w F l A l.length/\l.length<=c/\c<=maxLen:=by
 obtain⟨A,c,hv,hr,hc,hm⟩:=abR.row h zD hF2;rw[z8] at hv hr hc;exact⟨A,c,hv,aKm.2 ⟨rfl,hr⟩,hc,hm⟩
mutual
def okV:D->Prop
 | .val _=>True
 | .sl _ es=>uJ es
def uJ:List (List D)->Prop
 | []=>True
 | e::es=>(e≠[]/\yK e)/\uJ es
def yK:List D->Prop
 | []=>True
 | d::ds=>okV d/\yK ds
end
theorem au.lt{e:List D}(dD:e≠[])(h:au w F e cs)(hc:cu w b off cs):b<w:=by
 have hl:=h.len
 cases cs with
 | nil=>cases e with
   | nil=>exact absurd rfl dD
   | cons d ds=>simp at hl
 | cons v r=>exact hc.lt
mutual
theorem gI.here:∀(d:D) (v:Value),okV d->gI w F d v->gI w (· <w) d v
 | .val v,u,_,h=>by rw[gI] at h ⊢;exact h
 | .sl sz es,u,ho,h=>by
   rw[okV] at ho;rw[gI] at h ⊢;obtain⟨A,c,e,hl,h1⟩:=h;refine⟨A,c,e,hl,λhp=>?_⟩;obtain⟨b,off,ha,hb,hr⟩:=h1 hp;obtain⟨g1,g2⟩:=bK.here sz es b off ho hr;exact⟨b,off,ha,g2 (by intro e;rw[e] at hp;simp at hp),g1⟩
theorem bK.here(sz:Nat):∀(es:List (List D)) (b off:Nat),uJ es->bK w F sz es b off->bK w (· <w) sz es b off/\(es≠[]->b<w)
 | [],_,_,_,_=>⟨by rw[bK];trivial,λh=>absurd rfl h⟩
 | e::es,b,off,ho,h=>by
   rw[uJ] at ho;rw[bK] at h ⊢;obtain⟨⟨cs,hc,hr⟩,hl⟩:=h;exact⟨⟨⟨cs,hc,au.here e cs ho.1.2 hr⟩,(bK.here sz es b (off+sz) ho.2 hl).1⟩,λ_=>hr.lt ho.1.1 hc⟩
theorem au.here:∀(ds:List D) (cs:List Value),yK ds->au w F ds cs->au w (· <w) ds cs
 | [],_,_,h=>by rw[au] at h ⊢;exact h
 | d::ds,cs,ho,h=>by
   rw[yK] at ho;rw[au] at h ⊢;obtain⟨v,r,e,h1,h2⟩:=h;exact⟨v,r,e,gI.here d v ho.1 h1,au.here ds r ho.2 h2⟩
end
theorem Zp{es:List (List D)}:uJ es↔∀e∈es,e≠[]/\yK e:=by
 induction es with
 | nil=>rw[uJ];simp
 | cons e es ih=>rw[uJ,ih];simp
theorem au.below{ds:List D}(h:au w (· <B) ds cs)(hb:Below B w w'):au w' (· <B) ds cs:=au.keep (λb rX=>⟨rX,hb.block b rX⟩) _ _ h
def bM(w:World)(F:Nat->Prop)(sz:Nat)(es:List (List D))(A:Option Addr)(n:Nat):Prop:=n=es.length/\(0<n->∃b off,A=some ⟨b,off,none⟩/\F b/\bK w F sz es b off)
theorem bM.nil(w:World)(F:Nat->Prop)(sz:Nat)(A:Option Addr):bM w F sz [] A 0:=⟨rfl,λh=>by simp at h⟩
theorem bM.keep{es:List (List D)}(h:bM w F sz es A n)(hF:∀b,F b->F' b/\w'.heap[b]?=w.heap[b]?):bM w' F' sz es A n:=by
 refine⟨h.1,λhp=>?_⟩;obtain⟨b,off,hA,hb,hr⟩:=h.2 hp;exact⟨b,off,hA,(hF b hb).1,bK.keep hF _ _ _ _ (hF b hb).2 hr⟩
theorem bM.below{es:List (List D)}(h:bM w (· <B) sz es A n)(hb:Below B w w'):bM w' (· <B) sz es A n:=h.keep λb rX=>⟨rX,hb.block b rX⟩
theorem bM.here{es:List (List D)}(h:bM w F sz es A n)(ho:uJ es):bM w (· <w) sz es A n:=by
 refine⟨h.1,λhp=>?_⟩;obtain⟨b,off,hA,hb,hr⟩:=h.2 hp;obtain⟨g1,g2⟩:=bK.here sz es b off ho hr;exact⟨b,off,hA,g2 (by intro e;have:=h.1;rw[e] at this;simp at this;omega),g1⟩
theorem gI.row{es:List (List D)}(h:gI w F (.sl sz es) v):∃A n c,v= .slice A n c/\n<6000000000000/\bM w F sz es A n:=by
 rw[gI.LX] at h;obtain⟨A,c,e,h1,h2⟩:=h;exact⟨A,_,c,e,h1,rfl,h2⟩
theorem bM.rep{es:List (List D)}{c:Nat}(h:bM w F sz es A n)(hn:n<6000000000000):gI w F (.sl sz es) (A,n,c):=by
 rw[gI.LX];exact⟨A,c,by rw[h.1],by rw[<-h.1];exact hn,λhp=>h.2 (by rw[h.1];exact hp)⟩
theorem bM.elem{es:List (List D)}(h:bM w F sz es A n)(hi:i<n):
 ∃b off e cs,A=some ⟨b,off,none⟩/\es[i]?=some e/\cu w b (off+i*sz) cs/\au w F e cs:=by
 obtain⟨hn,h⟩:=h;obtain⟨b,off,hA,_,hr⟩:=h zO;have hx:es[i]?=es[i]'zO:=z6 zO;obtain⟨cs,h1,h2⟩:=hr.get i _ hx;exact⟨b,off,_,cs,hA,hx,h1,h2⟩
inductive aJ where
 | mk (k mn mx el:Int) (c:aT) (pr:Int) (args:List aJ)
def aZ:aJ->List D
 | .mk k mn mx el c pr args=>[.val (.int .i64 k),.val (.int .i64 mn),.val (.int .i64 mx),.val (.int .i64 el)]++wC c++[.val (.int .i64 pr),.sl 12 (ahb args)]
where ahb:List aJ->List (List D)
 | []=>[]
 | p::l=>aZ p::ahb l
theorem amo(l:List aJ):aZ.ahb l=l.map aZ:=by
 induction l with
 | nil=>rfl
 | cons c l ih=>rw[aZ.ahb,ih,Jm]
theorem Et(k mn mx el:Int)(c:aT)(pr:Int)(args:List aJ):aZ (.mk k mn mx el c pr args)=[.val (.int .i64 k),.val (.int .i64 mn),.val (.int .i64 mx),.val (.int .i64 el)]++wC c++[.val (.int .i64 pr),.sl 12 (args.map aZ)]:=by
 rw[aZ,amo]
theorem abS(p:aJ):(aZ p).length=12:=by cases p;rw[Et];simp[abP]
def nmD(x:Nm):List D:=[.val x.1,.val x.2]
def nU(l:List Nm):List D:=[.sl 2 (l.map nmD)]
theorem Ug{a b:List D}:yK (a++b)↔yK a/\yK b:=by
 induction a with
 | nil=>rw[d6,yK];simp
 | cons d a ih=>rw[m7,yK,yK,ih,and_assoc]
mutual
theorem ajq:∀c:aT,yK (wC c)
 | .mk k ns nl s ex ar=>by
   rw[Es];simp only[yK,okV,true_and,and_true];exact⟨Yp ex,Yp ar⟩
theorem Yp:∀l:List aT,uJ (l.map wC)
 | []=>by rw[List.map_nil,uJ];trivial
 | c::l=>by
   rw[Jm,uJ];exact⟨⟨λe=>by have:=abP c;rw[e] at this;simp at this,ajq c⟩,Yp l⟩
end
mutual
theorem jK:∀p:aJ,yK (aZ p)
 | .mk k mn mx el c pr args=>by
   rw[Et,Ug,Ug];simp only[yK,okV,true_and,and_true];exact⟨ajq c,TE args⟩
theorem TE:∀l:List aJ,uJ (l.map aZ)
 | []=>by rw[List.map_nil,uJ];trivial
 | p::l=>by
   rw[Jm,uJ];exact⟨⟨λe=>by have:=abS p;rw[e] at this;simp at this,jK p⟩,TE l⟩
end
theorem ar7(l:List Nm):uJ (l.map nmD):=by
 rw[Zp];intro e he;obtain⟨x,_,rfl⟩:=List.mem_map.1 he;simp[nmD,yK,okV]
theorem Nz(l:List (List Nm)):uJ (l.map nU):=by
 rw[Zp];intro e he;obtain⟨x,_,rfl⟩:=List.mem_map.1 he;simp only[nU,yK,okV,and_true];exact⟨zP,ar7 x⟩
theorem abU{mn mx el:Int}{pr:Int}{args:List aJ}(h:au w F (aZ (.mk k mn mx el c pr args)) cs):
 ∃c0 c1 c2 c3 c4 c5 A n cap,cs=[.int .i64 k,.int .i64 mn,.int .i64 mx,.int .i64 el,c0,c1,c2,c3,c4,c5,.int .i64 pr,.slice A n cap]/\dA w F c [c0,c1,c2,c3,c4,c5]/\n<6000000000000/\bM w F 12 (args.map aZ) A n:=by
 cases c with
 | mk ck ns nl s ex ar=>
   rw[Et,Es] at h;simp only[m7,d6,au.gu,au.oL,gI.rq] at h;obtain⟨_,_,rfl,rfl,_,_,rfl,rfl,_,_,rfl,rfl,_,_,rfl,rfl,u0,_,rfl,h0,u1,_,rfl,h1,u2,_,rfl,h2,u3,_,rfl,h3,u4,_,rfl,h4,u5,_,rfl,h5,_,_,rfl,rfl,u6,_,rfl,h6,rfl⟩:=h;obtain⟨A,n,cap,rfl,hn,hr⟩:=gI.row h6;refine⟨u0,u1,u2,u3,u4,u5,A,n,cap,rfl,?_,hn,hr⟩;rw[Vf,Es];simp only[au.gu,au.oL,gI.rq];exact⟨_,_,rfl,h0,_,_,rfl,h1,_,_,rfl,h2,_,_,rfl,h3,_,_,rfl,h4,_,_,rfl,h5,rfl⟩
abbrev o5 (k mn mx el ck:Int) (ns nl sp:ByteArray) (A1:Option Addr) (n1 c1:Nat) (A2:Option Addr) (n2 c2:Nat) (pr:Int) (A:Option Addr) (n c:Nat):Array Value:=#[k,mn,mx,el,ck,ns,nl,sp,(A1,n1,c1),(A2,n2,c2),pr,(A,n,c)]
mutual
def O4:aT->Nat
 | .mk _ _ _ _ ex ar=>1+max (LY ex) (LY ar)
def LY:List aT->Nat
 | []=>0
 | c::l=>max (O4 c) (LY l)
end
theorem aro(c:aT):1<=O4 c:=by cases c;rw[O4];omega
mutual
theorem QB:∀(c:aT) (r:Nat),(O4 c<=r->kC c<=100->ni r c=kC c)/\(r<O4 c\/100<kC c->100<ni r c)
 | .mk k ns nl s ex ar,0=>by
   have:=aro (.mk k ns nl s ex ar);rw[ni];exact⟨λh=>by omega,λ_=>by omega⟩
 | .mk k ns nl s ex ar,r+1=>by
   rw[ni,O4,kC];obtain⟨h1,h2⟩:=JD ex r 1;by_cases he:LY ex<=r/\1+iZ ex<=100
   ·rw[h1 he.1 he.2];obtain⟨h3,h4⟩:=JD ar r (1+iZ ex);exact⟨λa b=>h3 zO zO,λa=>h4 zO⟩
   have h5:=h2 zO;obtain⟨h3,h4⟩:=JD ar r (kW r 1 ex);exact⟨λa b=>by omega,λ_=>h4 zO⟩
theorem JD:∀(l:List aT) (r n:Nat),(LY l<=r->n+iZ l<=100->kW r n l=n+iZ l)/\(r<LY l\/100<n+iZ l->100<kW r n l)
 | [],r,n=>by rw[kW,LY,iZ];exact⟨λ_ _=>by omega,λh=>by omega⟩
 | c::l,r,n=>by
   rw[kW,LY,iZ];by_cases hn:n<100000
   ·rw[j6 hn];obtain⟨h1,h2⟩:=QB c r;obtain⟨h3,h4⟩:=JD l r (n+ni r c);by_cases he:O4 c<=r/\kC c<=100
    ·have h5:=h1 he.1 he.2;rw[h5] at h3 h4 ⊢;exact⟨λa b=>by rw[h3 zO zO];omega,λa=>h4 zO⟩
    have h5:=h2 zO;exact⟨λa b=>by omega,λa=>h4 zO⟩
   rw[j5 hn];exact⟨λa b=>by omega,λ_=>by omega⟩
end
theorem ajr(k:Int)(ns nl s:ByteArray)(n n':Nat):(rV k ns nl s n n'&&EW k ns nl s n n')=uI k ns nl s n n':=by
 unfold rV EW uI;by_cases h1:k=1
 ·subst h1;simp;by_cases hn:n=0
  ·subst hn;simp[Bool.and_assoc]
  simp[hn]
 by_cases h2:k=2
 ·subst h2;simp;cases (eqS ns ⟨#[]⟩)<;>cases (eqS nl ⟨#[]⟩)<;>simp[Bool.and_assoc]
 by_cases h3:k=3
 ·subst h3;simp[Bool.and_assoc]
 by_cases h4:k=4
 ·subst h4;by_cases hn:n=0
  ·subst hn;by_cases CO:0<n'
   ·simp[CO,show 1<=n' by omega,Bool.and_assoc]
   simp[CO,show ¬1<=n' by omega]
  simp[hn]
 simp[h1,h2,h3,h4]
mutual
theorem Zq:∀(c:aT) (d m:Nat) (f:Bool),m<=100->(O4 c+d<=11->m+kC c<=100->l7 d c m f=(m+kC c,(f&&rU c),true))/\(11<O4 c+d\/100<m+kC c->(l7 d c m f).2.2=false)
 | .mk k ns nl s ex ar,d,m,f,hm=>by
   rw[l7,O4,kC,rU];by_cases h0:10<d\/100<m+1
   ·rw[j6 h0];exact⟨λa b=>by omega,λ_=>rfl⟩
   rw[j5 h0];obtain⟨h1,h2⟩:=QC ex (d+1) (m+1) (f&&rV k ns nl s ex.length ar.length&&EW k ns nl s ex.length ar.length) zO zO;by_cases he:LY ex+(d+1)<=11/\m+1+iZ ex<=100
   ·have h5:=h1 he.1 he.2;rw[h5];simp only[if_true];obtain⟨h3,h4⟩:=QC ar (d+1) (m+1+iZ ex) (f&&rV k ns nl s ex.length ar.length&&EW k ns nl s ex.length ar.length&&lI ex) zO zO;refine⟨λa b=>?_,λa=>h4 zO⟩;rw[h3 zO zO];have hk:=ajr k ns nl s ex.length ar.length;rw[Bool.and_assoc f,hk];refine Prod.ext zS1 (Prod.ext ?_ rfl);simp only;cases f<;>cases lI ex<;>cases lI ar<;>simp
   have h5:=h2 zO;simp only[h5];exact⟨λa b=>by omega,λ_=>h5⟩
theorem QC:∀(l:List aT) (d m:Nat) (f:Bool),m<=100->d<=11->(LY l+d<=11->m+iZ l<=100->nR d l m f=(m+iZ l,(f&&lI l),true))/\(11<LY l+d\/100<m+iZ l->(nR d l m f).2.2=false)
 | [],d,m,f,hm,hd=>by rw[nR,LY,iZ,lI];exact⟨λ_ _=>by simp,λh=>by omega⟩
 | c::l,d,m,f,hm,hd=>by
   rw[nR,LY,iZ,lI];obtain⟨h1,h2⟩:=Zq c d m f hm;by_cases he:O4 c+d<=11/\m+kC c<=100
   ·have h5:=h1 he.1 he.2;rw[h5];simp only[if_true];obtain⟨h3,h4⟩:=QC l d (m+kC c) (f&&rU c) zO hd;refine⟨λa b=>?_,λa=>h4 zO⟩;rw[h3 zO zO,Bool.and_assoc,Nat.add_assoc]
   have h5:=h2 zO;simp only[h5];exact⟨λa b=>by omega,λ_=>h5⟩
end
theorem Wx(c:aT):xO c=jF c:=by
 unfold xO jF;obtain⟨h1,h2⟩:=QB c 10;obtain⟨h3,h4⟩:=Zq c 1 0 true zO;by_cases he:O4 c<=10/\kC c<=100
 ·have e1:¬100<kC c:=zO;rw[h3 zO zO,h1 he.1 he.2,j5 e1];simp
 have e1:100<ni 10 c:=h2 zO;rw[h4 zO,j6 e1];simp
theorem QD(h:jF c=0):kC c<=100/\rU c=true:=by
 unfold jF at h;obtain⟨h1,h2⟩:=QB c 10
 split at h
 ·simp at h
 rename_i h3;refine⟨?_,?_⟩
 ·by_cases he:kC c<=100
  ·exact he
  exact absurd (h2 (.inr zO)) h3
 by_cases hf:rU c=true
 ·exact hf
 rw[j5 hf] at h;simp at h
theorem Uh{ns nl s:ByteArray}{n':Nat}(h:uI k ns nl s n n'=true):n<=1/\(k=1\/k=2\/k=3\/k=4)/\(k≠4->n'=0)/\(k=1->jJ ns nl=true)/\(k=2->s.size<=200):=by
 unfold uI at h;by_cases h1:k=1
 ·subst h1;simp at h;obtain⟨⟨⟨h1,h2⟩,h3⟩,h4⟩:=h;subst h3;exact⟨zO,.inl rfl,λ_=>h4,λ_=>h1,λh=>by simp at h⟩
 rw[j5 h1] at h;by_cases h2:k=2
 ·subst h2;simp at h;obtain⟨⟨⟨h1,h2⟩,h3⟩,h4⟩:=h;exact⟨h3,.inr (.inl rfl),λ_=>h4,λh=>by simp at h,λ_=>h2⟩
 rw[j5 h2] at h;by_cases h3:k=3
 ·subst h3;simp at h;obtain⟨⟨_,h3⟩,h4⟩:=h;exact⟨h3,.inr (.inr (.inl rfl)),λ_=>h4,λh=>by simp at h,λh=>by simp at h⟩
 rw[j5 h3] at h;by_cases h4:k=4
 ·subst h4;simp at h;obtain⟨⟨_,h3⟩,h4⟩:=h;subst h3;exact⟨zO,.inr (.inr (.inr rfl)),λh=>absurd rfl h,λh=>by simp at h,λh=>by simp at h⟩
 rw[j5 h4] at h;cases h
mutual
theorem Yq(a b:ByteArray):∀c,rU c=true->pK c a b=vk c a b
 | .mk k ns nl s ex ar,h=>by
   rw[rU,z7,z7] at h;obtain⟨⟨h1,h2⟩,h3⟩:=h;obtain⟨g1,g2,g3,_⟩:=Uh h3;rw[pK,vk,Yr a b ex h1,Yr a b ar h2]
   have e1:Cm ex a b=inH ex a b:=by
    match ex,g1 with
    | [],_=>rw[Cm,inH]
    | [e],_=>rw[Cm,inH,Cm,Bool.or_false]
    | _::_::_,g=>simp at g
   rw[e1]
   congr 1
   rcases g2 with rfl | rfl | rfl | rfl<;>simp
theorem Yr(a b:ByteArray):∀l,lI l=true->F8 l a b=Cm l a b
 | [],_=>by rw[F8,Cm]
 | c::l,h=>by
   rw[lI,z7] at h;rw[F8,Cm,Yq a b c h.1,Yr a b l h.2]
end
theorem ajU(c:aT)(a b:ByteArray):xg (xO c) (jJ a b) (pK c a b)=xg (jF c) (jJ a b) (vk c a b):=by
 rw[Wx];unfold xg
 split
 ·rename_i h;rw[Yq a b c (QD h).2]
 rfl
def aJ.kind:aJ->Int | .mk k _ _ _ _ _ _=>k
def aJ.mn:aJ->Int | .mk _ m _ _ _ _ _=>m
def aJ.mx:aJ->Int | .mk _ _ m _ _ _ _=>m
def aJ.el:aJ->Int | .mk _ _ _ e _ _ _=>e
def aJ.cls:aJ->aT | .mk _ _ _ _ c _ _=>c
def aJ.pr:aJ->Int | .mk _ _ _ _ _ p _=>p
def aJ.args:aJ->List aJ | .mk _ _ _ _ _ _ a=>a
mutual
def dh:aJ->Nat
 | .mk _ _ _ _ _ _ args=>1+dZ args
def dZ:List aJ->Nat
 | []=>0
 | p::l=>dh p+dZ l
end
mutual
def vG:aJ->Nat
 | .mk _ _ _ _ _ _ args=>1+rF args
def rF:List aJ->Nat
 | []=>0
 | p::l=>max (vG p) (rF l)
end
mutual
def kJ:Nat->aJ->Nat×Nat
 | r,.mk _ _ _ _ _ _ args=>((jf r 0 1 args).1+1,(jf r 0 1 args).2)
def jf:Nat->Nat->Nat->List aJ->Nat×Nat
 | _,d,m,[]=>(d,m)
 | 0,d,m,_::_=>(d,m)
 | r+1,d,m,p::l=>if 40<m then (d,m) else jf (r+1) (max d (kJ r p).1) (m+(kJ r p).2) l
end
mutual
def sW:Nat->aJ->Nat
 | r,.mk _ _ _ _ _ _ args=>nV r 0 args+1
def nV:Nat->Nat->List aJ->Nat
 | _,n,[]=>n
 | 0,n,_::_=>n
 | r+1,n,p::l=>nV (r+1) (max n (sW r p)) l
end
mutual
def nY:aJ->Nat
 | .mk _ _ _ _ _ _ args=>kX 1 args
def kX:Nat->List aJ->Nat
 | n,[]=>n
 | n,p::l=>if n<=40 then kX (n+nY p) l else n
end
theorem afB(p:aJ):1<=vG p:=by cases p;rw[vG];omega
theorem Eu(p:aJ):1<=dh p:=by cases p;rw[dh];omega
mutual
theorem abV:∀p:aJ,(dh p<=40->nY p=dh p)/\(40<dh p->40<nY p)
 | .mk _ _ _ _ _ _ args=>by
   rw[dh,nY];exact Zr args 1
theorem Zr:∀(l:List aJ) (n:Nat),(n+dZ l<=40->kX n l=n+dZ l)/\(40<n+dZ l->40<kX n l)
 | [],n=>by rw[dZ,kX];omega
 | p::l,n=>by
   rw[dZ,kX];have h1:=abV p;have h2:=Zr l (n+nY p)
   split
   ·by_cases h:dh p<=40
    ·rw[h1.1 h] at h2 ⊢;omega
    have h3:=h1.2 zO;have:=dZ l;constructor
    ·intro h4;omega
    intro _;exact h2.2 zO
   omega
end
mutual
theorem NC:∀(p:aJ) (r:Nat),(vG p<=r+1->sW r p=vG p)/\(r+1<vG p->r+1<=sW r p)/\sW r p<=r+1
 | .mk _ _ _ _ _ _ args,r=>by
   rw[vG,sW];have h:=Zt args r 0;omega
theorem Zt:∀(l:List aJ) (r n:Nat),(rF l<=r->nV r n l=max n (rF l))/\(r<rF l->max n r<=nV r n l)/\nV r n l<=max n r
 | [],r,n=>by
   rw[rF];cases r<;>rw[nV]<;>omega
 | p::l,0,n=>by
   rw[rF,nV];have:=afB p;omega
 | p::l,r+1,n=>by
   rw[rF,nV];have h1:=NC p r;have h2:=Zt l (r+1) (max n (sW r p));omega
end
def IG(p:aJ):Bool:=decide (10<vG p)||decide (40<dh p)
theorem arp(p:aJ):(decide (10<sW 10 p)||decide (40<nY p))=IG p:=by
 have h1:=NC p 10;have h2:=abV p;unfold IG;rw[m9];simp only[Bool.or_eq_true,gy];omega
mutual
theorem abW:∀(p:aJ) (r:Nat),(vG p<=r+1->dh p<=40->(kJ r p).1=vG p/\(kJ r p).2=dh p)/\(vG p<=r+1->40<dh p->40<(kJ r p).2)/\(r+1<vG p->r+1<=(kJ r p).1\/40<(kJ r p).2)/\1<=(kJ r p).2
 | .mk _ _ _ _ _ _ args,r=>by
   rw[vG,dh,kJ];have h:=Zu args r 0 1;simp only;refine⟨λh1 h2=>?_,λh1 h2=>?_,λh1=>?_,?_⟩
   ·have:=h.1 zO zO;omega
   ·have:=h.2.1 zO zO;omega
   ·have:=h.2.2.1 zO;omega
   have:=h.2.2.2;omega
theorem Zu:∀(l:List aJ) (r d m:Nat),(rF l<=r->m+dZ l<=40->(jf r d m l).1=max d (rF l)/\(jf r d m l).2=m+dZ l)/\(rF l<=r->40<m+dZ l->40<(jf r d m l).2)/\(r<rF l->r<=(jf r d m l).1\/40<(jf r d m l).2)/\d<=(jf r d m l).1/\m<=(jf r d m l).2
 | [],r,d,m=>by
   rw[rF,dZ];cases r<;>rw[jf]<;>simp
 | p::l,0,d,m=>by
   rw[rF,dZ,jf];have:=afB p;refine⟨λh1=>?_,λh1=>?_,λ_=>.inl (Nat.zero_le _),zR _,zR _⟩<;>omega
 | p::l,r+1,d,m=>by
   rw[rF,dZ,jf];have hp:=Eu p
   split
   ·refine⟨λh1 h2=>?_,λh1 h2=>?_,λ_=>.inr ?_,zR _,zR _⟩
    ·omega
    ·assumption
    assumption
   obtain⟨a1,a2,a3,a4⟩:=abW p r;obtain⟨b1,b2,b3,b4,b5⟩:=Zu l (r+1) (max d (kJ r p).1) (m+(kJ r p).2);refine⟨λh1 h2=>?_,λh1 h2=>?_,λh1=>?_,zO,zO⟩
   ·obtain⟨c1,c2⟩:=a1 zO zO;have:=b1 zO zO;omega
   ·by_cases h3:dh p<=40
    ·obtain⟨c1,c2⟩:=a1 zO h3;exact b2 zO zO
    have:=a2 zO zO;omega
   by_cases h3:r+1<vG p
   ·rcases a3 h3 with h4 | h4
    ·exact .inl zO
    exact .inr zO
   exact b3 zO
end
theorem arq(p:aJ):(decide (10<(kJ 10 p).1)||decide (40<(kJ 10 p).2))=IG p:=by
 obtain⟨a1,a2,a3,a4⟩:=abW p 10;unfold IG;rw[m9];simp only[Bool.or_eq_true,gy];constructor
 ·intro h;by_cases h1:vG p<=10
  ·by_cases h2:dh p<=40
   ·have:=a1 zO h2;omega
   exact .inr zO
  exact .inl zO
 rintro (h | h)
 ·by_cases h1:vG p<=11
  ·by_cases h2:dh p<=40
   ·have:=a1 h1 h2;omega
   have:=a2 h1 zO;exact .inr this
  have:=a3 zO;omega
 by_cases h1:vG p<=11
 ·exact .inr (a2 h1 h)
 have:=a3 zO;omega
def nmC(x:Nm):aT:=.mk 1 x.1 x.2 ⟨#[]⟩ [] []
theorem afC(x:Nm)(w:World)(F:Nat->Prop)(A A':Option Addr)(c c':Nat):dA w F (nmC x) [(1:Int),x.1,x.2,.string ⟨#[]⟩,(A,0,c),(A',0,c')]:=by
 unfold nmC;rw[dA];exact⟨A,c,A',c',rfl,zP,zP,λh=>by simp at h,λh=>by simp at h⟩
theorem jO.one(h:dA w F c cs)(hg:w.heap[g]?=some (.cells cs.toArray t fr))(hF:F g):jO w F [c] g 1:=by
 refine⟨rfl,λ_=>⟨g,0,rfl,hF,?_⟩⟩;rw[jq,jq];exact⟨⟨cs,λj u hu=>by rw[Ys w g _ _ _ _ hg];simpa using hu,h⟩,trivial⟩
theorem jO.nil(w:World)(F:Nat->Prop)(A:Option Addr):jO w F [] A 0:=⟨rfl,λh=>by simp at h⟩
def ahc(Zk:Int)(c1 c2:aT)(x:Nm):Bool:=arU Zk (vk c1 x.1 x.2) (vk c2 x.1 x.2)
theorem alR{p:Prop} (h:p:=by
 rw[Ys w g _ _ _ _ hg,<-hu];have:j<6:=(z4.1 hu).1
 match j,this with
 | 0,_=>rfl
 | 1,_=>rfl
 | 2,_=>rfl
 | 3,_=>rfl
 | 4,_=>rfl
 | 5,_=>rfl):p:=h
theorem jO.two{c1 c2:aT}{a0 a1 a2 a3 a4 a5 b0 b1 b2 b3 b4 b5:Value}(h1:dA w F c1 [a0,a1,a2,a3,a4,a5])(h2:dA w F c2 [b0,b1,b2,b3,b4,b5])
 (hg:w.heap[g]?=some (.cells #[a0,a1,a2,a3,a4,a5,b0,b1,b2,b3,b4,b5] t fr)) (hF:F g):jO w F [c1,c2] g 2:=by
 refine⟨rfl,λ_=>⟨g,0,rfl,hF,?_⟩⟩;rw[jq,jq,jq];refine⟨⟨_,λj u hu=>?_,h1⟩,⟨_,λj u hu=>?_,h2⟩,trivial⟩
 ·exact alR
 exact alR
noncomputable def TF(f:Nm->Bool)(m:wY):Bool:=(abj m []).any f
theorem amq{α:Type}{f:α->Bool}{l:List α}{x:α}(h:l[i]?=x):(l.drop i).any f=(f x||(l.drop (i+1)).any f):=by
 obtain⟨hi,rfl⟩:=z4.1 h;rw[nZ hi,List.any_cons]
def WH(e1 e2:Int):Int:=if e1=0 then e2 else e1
def IK(e:Int)(v:Bool):Bool:=if e=0 then v else false
