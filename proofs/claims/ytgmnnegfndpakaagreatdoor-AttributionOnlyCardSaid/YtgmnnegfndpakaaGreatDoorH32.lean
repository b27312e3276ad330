import Derived.Test.YtgmnnegfndpakaaGreatDoorH30
set_option maxHeartbeats 20000000
set_option maxRecDepth 100000
namespace Go.Proofs.YtgmnnegfndpakaaGreatDoor
open Go.RowKit Go.Proofs.Tryz
variable{w a b:World}{base g cap n i k c:Nat}{l M:List Nm}{v:Value}{fr:Nat×Nat}
structure vg (w:World) (g cap n:Nat) (M:List Nm):Prop where
 blk:∃cur,w.heap[g]?=some (.cells cur 23)/\cur.size=cap*2/\cur.toList.take (n*2)=M.flatMap dK
 len:M.length=n
 le:n<=cap/\cap<=maxLen
theorem ax.auV(h:ax w base 23 2 dK l v):(v= ()/\l=[])\/∃g cap,v= .slice (some ⟨g,0,none⟩) l.length cap/\base<=g/\vg w g cap l.length l:=by
 rcases h.2 with ⟨e,hz⟩ | ⟨g,cap,cur,e,hg,hh,GK,yg,mP,kU⟩
 ·exact .inl ⟨e,g9 hz⟩
 exact .inr ⟨g,cap,e,hg,⟨cur,hh,mP,kU⟩,rfl,GK,yg⟩
theorem Be(l:List Nm):(l.flatMap dK).length=l.length*2:=by
 induction l with
 | nil=>rfl
 | cons x l ih=>rw[l4,z5,ih,z9,wX];omega
theorem vg.own(h:vg w g cap n M)(hg:base<=g):ax w base 23 2 dK M (g,0,n,cap):=by
 obtain⟨cur,h1,h2,h3⟩:=h.blk;refine⟨Be M,.inr ⟨g,cap,cur,by rw[h.len],hg,h1,by rw[h.len];exact h.le.1,h.le.2,h2,?_⟩⟩;rw[h.len];exact h3
theorem vg.keep{w':World}(h:vg w g cap n M)(hb:w'.heap[g]?=w.heap[g]?):vg w' g cap n M:=by
 obtain⟨cur,h1,h2,h3⟩:=h.blk;exact⟨⟨cur,hb.trans h1,h2,h3⟩,h.len,h.le⟩
theorem vg.at(h:vg w g cap n M)(hi:i<n):∃x1 x2,Hid (M[i]?=some (x1,x2))/\w.cell? (g,i*2)=some (.string x1)/\w.cell? (g,i*2+1)=some (.string x2)/\w.frozen? (g,i*2)=false/\w.frozen? (g,i*2+1)=false:=by
 obtain⟨cur,h1,h2,h3⟩:=h.blk;have hl:=h.len;have hx:M[i]?=M[i]'zO:=z6 _;have e1:=flat_get wX M i 0 _ hx zD;have e2:=flat_get wX M i 1 _ hx zD;rw[<-h3,Za zO] at e1 e2;refine⟨_,_,zH hx,?_,?_,k8 w g _ _ _ h1,k8 w g _ _ _ h1⟩
 ·rw[Ys w g _ _ _ _ h1];simpa[dK] using e1
 rw[Ys w g _ _ _ _ h1];simpa[dK] using e2
theorem alm(l:List Nm)(i:Nat)(x y:Nm)(h:l[i]?=x):(l.set i y).flatMap dK=((l.flatMap dK).set (i*2) y.1).set (i*2+1) y.2:=by
 induction l generalizing i with
 | nil=>simp at h
 | cons z l ih=>
   cases i with
   | zero=>simp[dK]
   | succ i=>
     have hi:l[i]?=x:=(by simpa using h);rw[List.set_cons_succ,l4,ih i hi,l4,show (i+1)*2=(dK z).length+i*2 by rw[wX];omega,List.set_append_right _ _ zO,Nat.add_sub_cancel_left,List.set_append_right _ _ zO,show (dK z).length+i*2+1 - (dK z).length=i*2+1 by omega]
theorem vg.set(h:vg w g cap n M)(hi:i<n)(x1 x2:ByteArray):vg ((w.setCell (g,i*2) x1).setCell (g,i*2+1) x2) g cap n (M.set i (x1,x2)):=by
 obtain⟨cur,h1,h2,h3⟩:=h.blk;have hl:=h.len;refine⟨⟨_,dM (dM h1),by simp[h2],?_⟩,by simp[hl],h.le⟩;have hx:M[i]?=M[i]'zO:=z6 _;simp only[Array.toList_setIfInBounds];rw[List.take_set,List.take_set,h3];have e:=alm M i (M[i]'zO) (x1,x2) hx;exact e.symm
theorem SL(g:Nat):∀(vs:List Value) (o:Nat) (w:World) (cur:Array Value) (t:TypeId),w.heap[g]?=Zc cur t->∃cur',(w.setCells g o vs).heap[g]?=some (.cells cur' t)/\cur'.size=cur.size/\(∀j,j<o->cur'[j]?=cur[j]?)/\w.grownBy (w.setCells g o vs) (some g)
 | [],o,w,cur,t,h=>⟨cur,h,rfl,λ_ _=>rfl,⟨rfl,rfl,rfl,zR _,λ_ _ _=>rfl⟩⟩
 | v::r,o,w,cur,t,h=>by
   obtain⟨cur',h1,h2,h3,h4⟩:=SL g r (o+1) (w.setCell (g,o) v) (cur.setIfInBounds o v) t (dM h);refine⟨cur',h1,by rw[h2];simp,λj hj=>?_,?_⟩
   ·rw[h3 j zO,Array.getElem?_setIfInBounds,j5 zO]
   have hs:(w.setCell (g,o) v).heap.size=w.heap.size:=zS4;refine⟨h4.os,h4.tape,h4.output,(by have:=h4.size;show w.heap.size<=((w.setCell (g,o) v).setCells g (o+1) r).heap.size;omega),λk hk hn=>?_⟩;exact(h4.block k zO hn).trans (gq (λe=>hn (by rw[e])))
theorem vg.clear(h:vg w g cap n M)(hk:k<=n)(vs:List Value):vg (w.setCells g (k*2) vs) g cap k (M.take k)/\w.grownBy (w.setCells g (k*2) vs) (some g):=by
 obtain⟨cur,h1,h2,h3⟩:=h.blk;have hl:=h.len;obtain⟨cur',k1,k2,k3,k4⟩:=SL g vs (k*2) w cur 23 h1;refine⟨⟨⟨cur',k1,k2.trans h2,?_⟩,by rw[Ju];omega,by have:=h.le;omega⟩,k4⟩
 have e1:cur'.toList.take (k*2)=cur.toList.take (k*2):=by
  apply List.ext_getElem?;intro j;by_cases hj:j<k*2
  ·rw[Za hj,Za hj];simpa using k3 j hj
  rw[List.getElem?_take_eq_none zO,List.getElem?_take_eq_none zO]
 have e2:=congrArg (List.take (k*2)) h3;rw[List.take_take,Nat.min_eq_left zO] at e2;rw[e1,e2]
 conv=>lhs;rw[<-List.take_append_drop k M,l6]
 rw[List.take_append_of_le_length (by rw[Be,Ju];omega),l8 (by rw[Be,Ju];omega)]
theorem grown_drewN{g:Option Nat}(h:a.grownBy b g)(q:Nat):a.grownBy (b.drewN q) g:=⟨h.os,h.tape,h.output,h.size,h.block⟩
theorem afs{c:World}{g:Option Nat}(h:a.grownBy b g)(k:b.grownBy c g):a.grownBy c g:=⟨k.os.trans h.os,k.tape.trans h.tape,k.output.trans h.output,zT h.size k.size,λq hq hn=>(k.block q (d4 hq h.size) hn).trans (h.block q hq hn)⟩
theorem ad8{x y:Nm}(hy:l[i]?=y)(hx:l[i+1]?=x):Lib.keeps l.toArray (i+1)=!(eqS x.1 y.1&&eqS x.2 y.2):=by
 obtain⟨h1,rfl⟩:=z4.1 hx;obtain⟨h2,rfl⟩:=z4.1 hy;unfold Lib.keeps;rw[DL h1,Nat.add_sub_cancel,DL h2];rw[m9,decide_eq_true_iff,Bool.not_eq_true',<-Bool.not_eq_true];have e:(eqS l[i+1].1 l[i].1&&eqS l[i+1].2 l[i].2)=true↔l[i+1]=l[i]:=jM _ _;rw[e];exact⟨λh=>h.resolve_left zO,λh=>.inr h⟩
theorem anZ{o:Nat}(g i:Nat)(hi:i<n)(W:World):(Instr.indexAt 37 (g,o,n,c) i).run prog W= .ok (g,o+i*2) W:=
 dN (P:=prog) 37 23 2 underlying37 (λw=>by kernel_rfl) rfl n c i hi W
theorem X9(g i:Nat)(hi:i<n)(W:World):(Instr.indexAt 37 (g,0,n,c) i).run prog W= .ok (g,i*2) W:=by
 have h:=anZ (o:=0) (c:=c) g i hi W;rwa [d9] at h
theorem ad9(base:Nat)(l:List Nm)(v:Value)(w:World)(h:ax w base 23 2 dK l v)(hl:l.length<1000000):
 Cl 121 #[v] w λe w'=>∃v',e= .returned v'/\ax w' base 23 2 dK (Lib.compact l) v'/\w.grownBy w' v.ownBlock/\v'.ownBlock=v.ownBlock:=by
 have gr0:∀x:Option Nat,w.grownBy w x:=λx=>⟨rfl,rfl,rfl,zR _,λ_ _ _=>rfl⟩
 rcases h.auV with ⟨rfl,rfl⟩ | ⟨g,cap,rfl,hg,oV⟩
 ·have hd:decide ((0:Int)<2)=true:=zD;go_enter func121,ntmps121;go_wp2_with fail;go_ret;exact⟨_,rfl,h,gr0 _,rfl⟩
 obtain⟨n,hn⟩:=zF l.length;rw[hn] at oV hl ⊢;have hob:(Value.slice g n cap).ownBlock=g:=rfl;have HN:=zH hn;by_cases h2:n<2
 ·have hd:=zT1 ((n:Int)<2);have hc:Lib.compact l=l:=Lib.compact_all l λj hj=>Lib.keeps_lt_one _ j zO;obtain⟨UU,HC⟩:=zJ2 oV hc;clear oV hn h hc;go_enter func121,ntmps121;go_wp2_with fail;go_ret;exact⟨_,rfl,by rw[HC.out];exact UU.own hg,gr0 _,rfl⟩
 obtain⟨hd,UU,Yw⟩:=zK3 (zT2 ((n:Int)<2)) (zH oV) oV.le;clear oV hn h;go_enter func121,ntmps121;go_wp2_with fail
 go_loopw [3] (λs3 W=>∃q:Nat,q+1<=n/\s3= ((q+1:Nat):Int)/\(∀j,j<q+1->Lib.keeps l.toArray j=true)/\vg W g cap n l/\w.grownBy W (some g))
  (λs3 _=>n - (intOf s3).toNat)
 case atStart=>exact⟨0,zO,rfl,Lib.keeps_lt_one _,UU,gr0 _⟩
 obtain⟨q,hq,rfl,hke,oV,fO⟩:=hrel;by_cases aN:q+1<n
 ·have gJ:=zT1 (q+1<n);obtain⟨y1,y2,HY,a0,a1,-,-⟩:=oV.at (i:=q) zO;obtain⟨x1,x2,HX,b0,b1,-,-⟩:=oV.at (i:=q+1) zO;have dO:=λW=>X9 (n:=n) (c:=cap) g (q+1) aN W;have hiy:=λW=>X9 (n:=n) (c:=cap) g q zO W;obtain⟨ev,CX⟩:=zF ((eqS x1 y1&&eqS x2 y2));have heq:∀W,(binOp .eql 23 (.agg #[x1,x2]) (.agg #[y1,y2])).run prog W= .ok ev W:=λW=>(by rw[nO,CX]);have ML:=ad8 HY HX;rw[CX] at ML;have bI:IntKind.i64.wrap (((q+1:Nat):Int) - 1)=(q:Int):=zS3;obtain⟨HKE,HA,JQ,HKV⟩:=zJ4 hke oV fO ML;clear hke oV fO ML CX;cases ev
  ·go_wp2_with fail
   go_quiet (fail)
   go_wp2_with fail;go_roundw
   case rel=>exact⟨q+1,zO,by go_num,λj hj=>by
    by_cases e:j=q+1
    ·rw[e,HKV.out];rfl
    exact HKE j zO,HA.keep rfl,grown_drewN JQ _⟩
   simp[intOf];omega
  go_wp2_with fail
  go_quiet (fail)
  obtain⟨W1,SQ⟩:=zE (wr.drewN 0)
  have hA2:(if cap=q+1 then (g:Option Addr) else (g:Option Addr).map (·.add ((q+1)*2)))=(g,(q+1)*2):=by
   rw[j5 zO];simp[Addr.add]
  have qZ:=zH hA2;clear hA2 SQ W1
  go_wp2_with (refine Wi rfl (.tmp 26) (.tmp 27) 37 rfl tyN g n cap (q+1) rfl rfl zO _ qZ ?_)
  go_loopw [3,5] (λs3 s5 W=>∃(kk j:Nat) (M:List Nm),s3= kk/\s5= .int .i64 ((j+1:Nat):Int)/\q+2+j<=n/\Lib.CompInv l.toArray (q+2+j) kk M.toArray/\vg W g cap n M/\w.grownBy W (some g))
   (λ_ s5 _=>n - (intOf s5).toNat)
  case atStart=>
   exact⟨q+1,0,l,by go_num,rfl,zO,Lib.CompInv.start HKE HKV,HA.keep rfl,grown_drewN JQ _⟩
  obtain⟨kk,j,M,rfl,rfl,hj,hinv,oV,fO⟩:=hrel;have hkm:=hinv.lt
  have tC:∀i,kk<=i->i<n->M[i]?=l[i]?:=λi hi oO=>by
   have h1:=hinv.high i hi;have qw:i<l.length:=(by rw[HN.out];exact oO);have lW:i<M.length:=(by rw[oV.len];exact oO);rw[DL qw,DL lW] at h1;rw[z6 qw,z6 lW,h1]
  by_cases Dt:q+2+j<n
  ·have jc:=zT1 (j+1<n - (q+1));obtain⟨y1,y2,Uz,a0,a1,-,-⟩:=oV.at (i:=q+1+j) zO;obtain⟨x1,x2,HX2,b0,b1,-,-⟩:=oV.at (i:=q+2+j) Dt;obtain⟨z1,z2,-,d0,d1,f0,f1⟩:=oV.at (i:=kk) zO;rw[show (q+1+j)*2=(q+1)*2+j*2 by omega] at a0 a1;rw[show (q+2+j)*2=(q+1)*2+(j+1)*2 by omega] at b0 b1;have dO:=λW=>anZ (n:=n - (q+1)) (o:=(q+1)*2) (c:=cap - (q+1)) g (j+1) zO W;have hiy:=λW=>anZ (n:=n - (q+1)) (o:=(q+1)*2) (c:=cap - (q+1)) g j zO W;have hiz:=λW=>X9 (n:=n) (c:=cap) g kk zO W;obtain⟨ev,CX⟩:=zF ((eqS x1 y1&&eqS x2 y2));have heq:∀W,(binOp .neq 23 (.agg #[x1,x2]) (.agg #[y1,y2])).run prog W= .ok (!ev:Bool) W:=λW=>(by rw[Qu,CX]);have hlx:l[q+2+j]?=some (x1,x2):=(by rw[<-tC _ zO Dt];exact HX2);have ML:=ad8 (l:=l) (i:=q+1+j) (y:=(y1,y2)) (by rw[<-tC _ zO zO];exact Uz) (x:=(x1,x2)) (by rw[show q+1+j+1=q+2+j by omega];exact hlx);rw[CX,show q+1+j+1=q+2+j by omega] at ML;have bI:IntKind.i64.wrap (((j+1:Nat):Int) - 1)=(j:Int):=zS3
   have hdm:l.toArray[q+2+j]! =(x1,x2):=by
    have qw:q+2+j<l.length:=(by rw[HN.out];exact Dt);rw[DL qw];have:=z6 qw;rw[hlx] at this;exact(zI this).symm
   obtain⟨au0,ah3,VS,au1,HDM⟩:=zJ5 hinv oV fO ML hdm;clear hinv oV fO ML hdm CX tC hlx;cases ev
   ·go_wp2_with fail
    go_quiet (fail)
    go_wp2_with fail;go_roundw
    case rel=>
     refine⟨kk+1,j+1,M.set kk (x1,x2),by go_num,by go_num,zO,?_,?_,?_⟩
     ·have h:=au0.keep (by simp;rw[HN.out];exact Dt) au1;rw[HDM.out] at h;simpa[Nat.add_assoc] using h
     ·exact vg.set (w:=wr.drewN _) (ah3.keep rfl) (show kk<n by omega) x1 x2
     have h:=grown_drewN VS;refine⟨VS.os,VS.tape,VS.output,by simp;exact VS.size,λb hb hn=>?_⟩;have dD:b≠g:=λe=>hn (by rw[e]);exact(gq dD).trans ((gq dD).trans (VS.block b hb hn))
    simp[intOf];omega
   go_wp2_with fail
   go_quiet (fail)
   go_wp2_with fail;go_roundw
   case rel=>
    refine⟨kk,j+1,M,rfl,by go_num,zO,?_,ah3.keep rfl,grown_drewN VS _⟩;have h:=au0.skip au1;simpa[Nat.add_assoc] using h
   simp[intOf];omega
  have xu:q+2+j=n:=zO;have jc:=zT2 (j+1<n - (q+1));rw[xu] at hinv hkm
  have au2:Lib.compact l=M.take kk:=by
   unfold Lib.compact;rw[HN.out];apply List.ext_getElem?;intro i;by_cases hi:i<kk
   ·rw[hinv.low i hi,Za hi];have lW:i<M.length:=(by rw[oV.len];omega);rw[DL lW,z6 lW]
   rw[JT (by rw[hinv.len];omega),JT (by rw[Ju];omega)]
  have hA3:(if cap=kk then (g:Option Addr) else (g:Option Addr).map (·.add (kk*2)))=(g,kk*2):=by
   rw[j5 zO];simp[Addr.add];omega
  have aCm:=X6 wr 0 g (kk*2) (n - kk) (cap - kk) zO (λt ht=>by
   have h2:t % 2=0\/t % 2=1:=zO;obtain⟨z1,z2,-,d0,d1,-,-⟩:=oV.at (i:=kk+t / 2) zO
   rcases h2 with h2 | h2
   ·rw[show kk*2+t=(kk+t / 2)*2 by omega,d0];rfl
   ·rw[show kk*2+t=(kk+t / 2)*2+1 by omega,d1];rfl) (λt ht=>by
   have h2:t % 2=0\/t % 2=1:=zO;obtain⟨z1,z2,-,-,-,f0,f1⟩:=oV.at (i:=kk+t / 2) zO
   rcases h2 with h2 | h2
   ·rw[show kk*2+t=(kk+t / 2)*2 by omega,f0]
   rw[show kk*2+t=(kk+t / 2)*2+1 by omega,f1])
  obtain⟨an0,an1⟩:=oV.clear (k:=kk) zO (List.replicate ((n - kk)*2) (.string ⟨#[]⟩));obtain⟨wz,UZ⟩:=zF (wr.setCells g (kk*2) (List.replicate ((n - kk)*2) (.string ⟨#[]⟩)));rw[UZ] at aCm an0 an1;obtain⟨aCn,aCo,aCp,HA3⟩:=zK4 (zH an0) (zH (afs fO an1)) (zH au2) (zH hA3);clear hinv oV fO an0 an1 au2 hA3 UZ tC
  go_wp2_with (first
   | (refine Wi rfl (.tmp 54) (.tmp 55) 37 rfl tyN g n cap kk rfl rfl zO _ HA3 ?_)
   | (refine ag7 rfl (.tmp 57) (.tmp 58) 37 rfl tyN g n cap kk rfl rfl zO ?_))
  go_ret;exact⟨_,rfl,by rw[aCp.out];exact aCn.own hg,aCo.out,rfl⟩
 obtain rfl:q+1=n:=zO;have gJ:=zT2 (q+1<q+1);have hc:Lib.compact l=l:=Lib.compact_all l λj hj=>hke j (by rw[HN.out] at hj;exact hj);obtain⟨HA,JQ,HC⟩:=zJ3 oV fO hc;clear oV fO hke hc;go_wp2_with fail;go_ret;exact⟨_,rfl,by rw[HC.out];exact HA.own hg,JQ.out,rfl⟩
theorem aaN(w:World)(base:Nat)(l:List Nm)(v:Value)(dV:ax w base 23 2 dK l v)(g c:Nat)(x:Nm)(hc:cu w g 0 (dK x))(hlen:l.length<1000000000)(eY:base<=w)(ty:TypeId):
 ∃v' w',(Builtin.append_ #[37,37] ty #[v,(g,0,1,c)]).run prog w= .ok v' w'/\ax w' base 23 2 dK (l++[x]) v'/\w.grownBy w' v.ownBlock/\(v'.ownBlock=v.ownBlock\/v'.ownBlock=some w.heap.size):=by
 obtain⟨ht,i,hi,hz,bY,nP,ry,h0,-⟩:=tyN
 obtain⟨v',w',bG,h2,h3,-,h5⟩:=run_append_own_at (P:=prog) w base 37 ty 23 i _ 2 32 ht hi hz bY nP ry h0 v _ _ dV g 1 c (dK x) rfl (λj u hu=>by
  have h:=hc j u hu;by_cases e:j=0
  ·subst e;simpa[Addr.add] using h
  simpa[Addr.add,e] using h) (by intro u hu;simp[dK] at hu;(first | (rcases hu with rfl | rfl<;>rfl) | (subst hu;rfl))) (by unfold maxLen;omega) zO eY
 refine⟨v',w',bG,?_,h3,h5⟩;unfold ax;rw[z5,l6];simpa using h2
theorem aln(w:World)(base:Nat)(l:List ByteArray)(v:Value)(dV:ax w base 9 1 mG l v)(g c:Nat)(x:ByteArray)(hc:cu w g 0 (mG x))(hlen:l.length<1000000000)(eY:base<=w)(ty:TypeId):
 ∃v' w',(Builtin.append_ #[47,47] ty #[v,(g,0,1,c)]).run prog w= .ok v' w'/\ax w' base 9 1 mG (l++[x]) v'/\w.grownBy w' v.ownBlock/\(v'.ownBlock=v.ownBlock\/v'.ownBlock=some w.heap.size):=by
 obtain⟨ht,i,hi,hz,bY,nP,ry,h0,-⟩:=tyS
 obtain⟨v',w',bG,h2,h3,-,h5⟩:=run_append_own_at (P:=prog) w base 47 ty 9 i _ 1 16 ht hi hz bY nP ry h0 v _ _ dV g 1 c (mG x) rfl (λj u hu=>by
  have h:=hc j u hu;by_cases e:j=0
  ·subst e;simpa[Addr.add] using h
  simpa[Addr.add,e] using h) (by intro u hu;simp[mG] at hu;(first | (rcases hu with rfl | rfl<;>rfl) | (subst hu;rfl))) (by unfold maxLen;omega) zO eY
 refine⟨v',w',bG,?_,h3,h5⟩;unfold ax;rw[z5,l6];simpa using h2
structure qE (W:World) (base ba:Nat) (c1 c2:Value) (ns:List Nm) (ss:List ByteArray) (v1 v2:Value):Prop where
 blk:W.heap[ba]?=Zc #[c1,c2] 129
 ql:ax W base 23 2 dK ns v1
 oK:ax W base 9 1 mG ss v2
abbrev sN (W:World) (base ba:Nat) (ns:List Nm) (ss:List ByteArray) (v1 v2:Value):Prop:=qE W base ba v1 v2 ns ss v1 v2
theorem ax.VT{α:Type}{e:TypeId}{sz:Nat}{cells:α->List Value}{l:List α}(h:ax w base e sz cells l v)(hk:v.ownBlock=k):∃cs,w.heap[k]?=some (.cells cs e (0,0)):=h.bC hk
section
variable {W:World} {base ba:Nat} {c1 c2:Value} {ns:List Nm} {ss:List ByteArray} {v1 v2:Value}
theorem qE.keep(h:qE W base ba c1 c2 ns ss v1 v2){W':World}(hb:∀q,q<W.heap.size->W'.heap[q]?=W.heap[q]?):qE W' base ba c1 c2 ns ss v1 v2:=
 ⟨(hb ba (aC h.blk)).trans h.blk,h.ql.bu λq hq=>hb q (h.ql.block_lt hq).2,h.oK.bu λq hq=>hb q (h.oK.block_lt hq).2⟩
theorem qE.below(h:qE W base ba c1 c2 ns ss v1 v2){W':World}(hb:Bw W W'):qE W' base ba c1 c2 ns ss v1 v2:=h.keep hb.block
theorem qE.ne(h:qE W base ba c1 c2 ns ss v1 v2):(∀q,v1.ownBlock=some q->q≠ba/\v2.ownBlock≠some q)/\∀q,v2.ownBlock=some q->q≠ba:=by
 refine⟨λq hq=>⟨λe=>?_,λe=>?_⟩,λq hq e=>?_⟩
 ·obtain⟨cs,h1⟩:=h.ql.VT hq;rw[e,h.blk] at h1;simp at h1
 ·obtain⟨cs,h1⟩:=h.ql.VT hq;obtain⟨cs',h2⟩:=h.oK.VT e;rw[h1] at h2;simp at h2
 obtain⟨cs,h1⟩:=h.oK.VT hq;rw[e,h.blk] at h1;simp at h1
theorem qE.app1(h:qE W base ba c1 c2 ns ss v1 v2)(g:Nat)(x:Nm)(hc:cu W g 0 (dK x))(hlen:ns.length<1000000000)(eY:base<=W):
 ∃Ad W',(Builtin.append_ #[37,37] 37 #[v1,(g,0,1,1)]).run prog W= .ok Ad W'/\qE W' base ba c1 c2 (ns++[x]) ss Ad v2/\(∀q,q<W.heap.size->v1.ownBlock≠some q->W'.heap[q]?=W.heap[q]?)/\Kept (λq=>v1.ownBlock=some q) W W':=by
 obtain⟨Ad,W',bG,ho,hg,-⟩:=aaN W base ns v1 h.ql g 1 x hc hlen eY 37;have hb:∀q,q<W.heap.size->v1.ownBlock≠some q->W'.heap[q]?=W.heap[q]?:=λq hq hn=>hg.block q hq (λe=>hn e.symm);refine⟨Ad,W',bG,⟨(hb ba (aC h.blk) (λe=>(h.ne.1 ba e).1 rfl)).trans h.blk,ho,h.oK.bu λq hq=>hb q (h.oK.block_lt hq).2 (λe=>(h.ne.1 q e).2 hq)⟩,hb,⟨hg.os,hg.tape,hg.output,hg.size,λq hq hn=>hb q hq hn⟩⟩
theorem qE.aif(h:qE W base ba c1 c2 ns ss v1 v2)(g:Nat)(x:ByteArray)(hc:cu W g 0 (mG x))(hlen:ss.length<1000000000)(eY:base<=W):
 ∃yj W',(Builtin.append_ #[47,47] 47 #[v2,(g,0,1,1)]).run prog W= .ok yj W'/\qE W' base ba c1 c2 ns (ss++[x]) v1 yj/\(∀q,q<W.heap.size->v2.ownBlock≠some q->W'.heap[q]?=W.heap[q]?)/\Kept (λq=>v2.ownBlock=some q) W W':=by
 obtain⟨yj,W',bG,ho,hg,-⟩:=aln W base ss v2 h.oK g 1 x hc hlen eY 47;have hb:∀q,q<W.heap.size->v2.ownBlock≠some q->W'.heap[q]?=W.heap[q]?:=λq hq hn=>hg.block q hq (λe=>hn e.symm);refine⟨yj,W',bG,⟨(hb ba (aC h.blk) (λe=>h.ne.2 ba e rfl)).trans h.blk,h.ql.bu λq hq=>hb q (h.ql.block_lt hq).2 (h.ne.1 q hq).2,ho⟩,hb,⟨hg.os,hg.tape,hg.output,hg.size,λq hq hn=>hb q hq hn⟩⟩
theorem qE.fin(h:qE W base ba c1 c2 ns ss v1 v2):sN ((W.setCell ba v1).setCell (ba,1) v2) base ba ns ss v1 v2:=by
 refine⟨?_,h.ql.bu λq hq=>?_,h.oK.bu λq hq=>?_⟩
 ·have h1:=dM (i:=1) (v:=v2) (dM (i:=0) (v:=v1) h.blk);simpa using h1
 ·exact(gq (h.ne.1 q hq).1).trans (gq (h.ne.1 q hq).1)
 exact(gq (h.ne.2 q hq)).trans (gq (h.ne.2 q hq))
end
theorem VU{x:Nm}(h:w.heap[g]?=some (.cells #[x.1,x.2] 23 fr)):cu w g 0 (dK x):=λj u hu=>by
 rw[d9,Ys w g _ _ _ _ h];simpa[dK] using hu
theorem OH{x:ByteArray}(h:w.heap[g]?=some (.cells #[x] 9 fr)):cu w g 0 (mG x):=λj u hu=>by
 rw[d9,Ys w g _ _ _ _ h];simpa[mG] using hu
theorem name_any(base ba:Nat)(ns:List Nm)(ss:List ByteArray)(v1 v2:Value)(a b:ByteArray)(w:World)(h:sN w base ba ns ss v1 v2)(qw:ns.length<1000000)(lW:ss.length<1000000)(eY:base<=w):
 Cl 117 #[(ba,0),.agg #[a,b]] w λe w'=>e= .returned (.tuple #[])/\∃Ad yj,sN w' base ba (ns++[(a,b)]) (ss++[a]) Ad yj/\Kept (λq=>q=ba\/v1.ownBlock=some q\/v2.ownBlock=some q) w w':=by
 obtain⟨A1,c1,rfl⟩:=h.ql.form;obtain⟨A2,c2,rfl⟩:=h.oK.form;obtain⟨n1,yB⟩:=zF ns.length;obtain⟨n2,qY⟩:=zF ss.length;have ai:n1<1000000:=zO;have ag:n2<1000000:=zO;rw[yB,qY] at h ⊢;obtain⟨w1,bI,SB,nC,Ru⟩:=af w (Zc #[a,b] 23);have h1:sN w1.drew base ba ns ss (A1,n1,c1) (A2,n2,c2):=h.keep λq hq=>Ru.block q hq;have aqn:∀q,(Value.slice A1 n1 c1).ownBlock=some q->q<w.heap.size:=λq hq=>(h.ql.block_lt hq).2;have aqo:∀q,(Value.slice A2 n2 c2).ownBlock=some q->q<w.heap.size:=λq hq=>(h.oK.block_lt hq).2;have SBd:w1.drew.heap[w.heap.size]?=Zc #[a,b] 23:=SB;have hCk:∀V:World,V.heap[ba]?=Zc #[(A1,n1,c1),(A2,n2,c2)] 129->V.heap[w.heap.size]?=Zc #[a,b] 23->(V.cell? ba=(A1,n1,c1)/\V.cell? (ba,1)=(A2,n2,c2)/\V.cell? w=a/\V.cell? (w,1)=b):=λV h1 h2=>⟨(dw h1).1,(dw h1).2,(dw h2).1,(dw h2).2⟩;have eu:Kept (λq=>q=ba\/(Value.slice A1 n1 c1).ownBlock=some q\/(Value.slice A2 n2 c2).ownBlock=some q) w w1.drew:=(Qh Ru).drew;have e1:w1=w.heap.size+1:=(by rw[<-bI];simp);have hHeld:w1.drew.cell? ba=(A1,n1,c1)/\w1.drew.cell? (ba,1)=(A2,n2,c2)/\w1.drew.cell? w=a/\w1.drew.cell? (w,1)=b:=hCk _ h1.blk SBd;obtain⟨z0,H1,aea,an2,uT,uC,G9,IZ⟩:=zK8 (dw SB) (zH h1) (zH aqn) (zH aqo) (zH SBd) (zH hCk) (zH eu) (zH yB);obtain⟨um,HB⟩:=zJ2 qY eY;clear h h1 aqn aqo SBd hCk eu yB qY SB qw lW;refine (t6 (n:=3)).1 ?_;refine callsIn_of_wp func117 rfl trivial ?_ rfl;simp only[ntmps117,YV,z9,z24,Nat.reduceAdd,Nat.reduceSub,Ze,Zd,List.push_toArray,ZD,d6,m7];have l9:prog.follows .mixedOrders=true:=zS2;gi_wp2;refine aP.start (λV=>V.cell? ba=(A1,n1,c1)/\V.cell? (ba,1)=(A2,n2,c2)/\V.cell? w=a/\V.cell? (w,1)=b) 19 zK ?_;refine aP.tk 0 19 [] hHeld ?_;refine aP.zJ (i:=1) (v:=?vi2) rfl (aB rfl) zK zK zK zD (λ_ _ _ h=>h) ⟨Or.inl ⟨zL,?yi2⟩,λ_=>rfl⟩ hHeld ?ri2
 case yi2=>(intro w hSw;(try dsimp only at hSw);go_simp);all_goals (try with_reducible rfl)
 (try simp only[Act.put,dG,dH,dI]);refine aP.tk 2 19 [] hHeld ?_;refine aP.tk 3 19 [] hHeld ?_;refine aP.tk 4 19 [] hHeld ?_;refine aP.tk 5 19 [] hHeld ?_;refine aP.tk 6 19 [] hHeld ?_;refine aP.zJ (i:=9) (v:=?vi8) rfl (aB rfl) zK zK zK zD (λ_ _ _ h=>h) ⟨Or.inl ⟨zL,?yi8⟩,λ_=>rfl⟩ hHeld ?ri8
 case yi8=>(intro w hSw;(try dsimp only at hSw);go_simp);all_goals (try with_reducible rfl)
 (try simp only[Act.put,dG,dH,dI]);refine aP.zJ (i:=10) (v:=?vi9) rfl (aB rfl) zK zK zK zD (λ_ _ _ h=>h) ⟨Or.inl ⟨zL,?yi9⟩,λ_=>rfl⟩ hHeld ?ri9
 case yi9=>(intro w hSw;(try dsimp only at hSw);go_simp);all_goals (try with_reducible rfl)
 (try simp only[Act.put,dG,dH,dI]);refine aP.zJ (i:=11) (v:=?aIx) rfl (aB rfl) zK zK zK zD (λ_ _ _ h=>h) ⟨Or.inl ⟨zL,?aCq⟩,λ_=>rfl⟩ hHeld ?aIy
 case aCq=>(intro w hSw;(try dsimp only at hSw);go_simp);all_goals (try with_reducible rfl)
 (try simp only[Act.put,dG,dH,dI]);refine aP.tk 12 19 [] hHeld ?_;refine aP.zJ (i:=13) (v:=?aIz) rfl (aB rfl) zK zK zK zD (λ_ _ _ h=>h) ⟨Or.inl ⟨zL,?aCr⟩,λ_=>rfl⟩ hHeld ?aIA
 case aCr=>(intro w hSw;(try dsimp only at hSw);go_simp);all_goals (try with_reducible rfl)
 (try simp only[Act.put,dG,dH,dI]);refine aP.tk 14 15 [16,19] hHeld ?_;refine aP.two (i:=7) (j:=15) zK (aB rfl) (aB rfl) (λK hK=>?_) (λK hK=>?_)
 ·obtain⟨x1a,aIB,an3,aHs,aih⟩:=af w1.drew (Zc #[a,b] 23);rw[show w1.drew.heap.size=w.heap.size+1 from e1] at an3;have an4:=(H1.out).below aih;have aeb:=ae (uT.out) aih;have au4:Kept (λq=>q=ba\/(Value.slice A1 n1 c1).ownBlock=some q\/(Value.slice A2 n2 c2).ownBlock=some q) w x1a:=(G9.out).trans (Qh aih);have aCs:=uC _ an4.blk aeb;have aIC:w.heap.size<x1a:=aC aeb;go_simp;refine di hK (λ_=>aCs) ?_;clear hK K;refine aP.two (i:=8) (j:=15) zK (aB rfl) (aB rfl) (λK hK=>?_) (λK hK=>?_)
  ·obtain⟨aHt,aii,aec,abt,axY,axZ⟩:=(an4).app1 ((w.heap.size+1)) (a,b) (VU (x:=(a,b)) an3) (by rw[IZ.out];omega) (by have:=HB.out;omega);have aij:=(axY _ (aC (aeb)) (λe=>by have:=aea _ e;omega)).trans (aeb);have ax0:Kept (λq=>q=ba\/(Value.slice A1 n1 c1).ownBlock=some q\/(Value.slice A2 n2 c2).ownBlock=some q) w aii:=(au4).trans (fE axZ λq hq=>.inr (.inl hq));have ax1:=uC _ abt.blk aij;have aHu:w.heap.size<aii:=aC aij;obtain⟨B1,d1,rfl⟩:=abt.ql.form;obtain⟨m1,iY⟩:=zF ((ns++[(a,b)]).length);rw[iY] at aec abt;refine Jn (.tmp 9) (.tmp 11) 37 rfl zL rfl rfl aec ?_;refine di hK (λ_=>ax1) ?_;clear hK K;refine aP.on 15 λK hK=>?_;obtain⟨au5,aHv,ax2,aGz,aed⟩:=af aii (Zc #[a] 9);have aqr:=(abt).below aed;have abu:=ae (aij) aed;have ax3:Kept (λq=>q=ba\/(Value.slice A1 n1 c1).ownBlock=some q\/(Value.slice A2 n2 c2).ownBlock=some q) w au5:=(ax0).trans (Qh aed);have ax4:=uC _ aqr.blk abu;have aHw:w.heap.size<au5:=aC abu;go_simp;refine di hK (λ_=>ax4) ?_;clear hK K;refine aP.on 16 λK hK=>?_;obtain⟨aHx,au6,aee,abv,ax5,ax6⟩:=(aqr).aif (aii.heap.size) a (OH (x:=a) ax2) (by rw[um.out];omega) (by have:=HB.out;omega);have aqs:=(ax5 _ (aC (abu)) (λe=>by have:=an2 _ e;omega)).trans (abu);have ax7:Kept (λq=>q=ba\/(Value.slice A1 n1 c1).ownBlock=some q\/(Value.slice A2 n2 c2).ownBlock=some q) w au6:=(ax3).trans (fE ax6 λq hq=>.inr (.inr hq));have aqt:=uC _ abv.blk aqs;have aHy:w.heap.size<au6:=aC aqs;obtain⟨B2,d2,rfl⟩:=abv.oK.form;obtain⟨m2,nJ⟩:=zF ((ss++[a]).length);rw[nJ] at aee abv;refine Jn (.tmp 16) (.tmp 19) 47 rfl zL rfl rfl aee ?_;refine di hK (λ_=>aqt) ?_;clear hK K;obtain⟨hCz,HZ,HKZ⟩:=zK3 aqt (zH abv) (zH ax7);have u0:=dw HZ.blk;have f0:=k8 _ ba 0 _ _ HZ.blk;refine aP.acF 17 (λ_=>hCz) ?_;refine aP.acF 18 (λ_=>hCz) ?_;refine aP.oe 19 ?_;(try simp only[Act.put,dG,dH,dI]);have y1:=dM (i:=0) (v:=(B1,m1,d1)) HZ.blk;simp only[List.setIfInBounds_toArray,List.set_cons_zero] at y1;have g0:=dw y1;have f1:=k8 _ ba 1 _ _ y1;refine aP.oe 20 ?_;(try simp only[Act.put,dG,dH,dI]);refine aP.oe 21 ?_;(try simp only[Act.put,dG,dH,dI]);refine aP.oe 22 ?_;(try simp only[Act.put,dG,dH,dI]);refine aP.dn ?_;gi_wp2
   go_end0
   refine⟨rfl,_,_,HZ.fin,?_⟩;exact((HKZ.out).setCell (p:=ba) (.inl (.inl rfl)) _).setCell (p:=⟨ba,1,none⟩) (.inl (.inl rfl)) _
  obtain⟨au7,aHz,aqu,aGA,Ya⟩:=af x1a (Zc #[a] 9);have aqv:=(an4).below Ya;have abw:=ae (aeb) Ya;have ax8:Kept (λq=>q=ba\/(Value.slice A1 n1 c1).ownBlock=some q\/(Value.slice A2 n2 c2).ownBlock=some q) w au7:=(au4).trans (Qh Ya);have ax9:=uC _ aqv.blk abw;have aHA:w.heap.size<au7:=aC abw;have au8:=ae (an3) Ya;go_simp;refine di hK (λ_=>ax9) ?_;clear hK K;refine aP.on 8 λK hK=>?_;obtain⟨aHB,au9,aef,abx,aqw,aya⟩:=(aqv).app1 ((w.heap.size+1)) (a,b) (VU (x:=(a,b)) au8) (by rw[IZ.out];omega) (by have:=HB.out;omega);have aby:=(aqw _ (aC (abw)) (λe=>by have:=aea _ e;omega)).trans (abw);have ayb:Kept (λq=>q=ba\/(Value.slice A1 n1 c1).ownBlock=some q\/(Value.slice A2 n2 c2).ownBlock=some q) w au9:=(ax8).trans (fE aya λq hq=>.inr (.inl hq));have ayc:=uC _ abx.blk aby;have arK:=(aqw _ (aC (aqu)) (λe=>by have:=aea _ e;omega)).trans (aqu);have aHC:w.heap.size<au9:=aC aby;obtain⟨B1,d1,rfl⟩:=abx.ql.form;obtain⟨m1,iY⟩:=zF ((ns++[(a,b)]).length);rw[iY] at aef abx;refine Jn (.tmp 9) (.tmp 11) 37 rfl zL rfl rfl aef ?_;refine di hK (λ_=>ayc) ?_;clear hK K;refine aP.on 16 λK hK=>?_;obtain⟨aHD,ava,aeg,abz,ayd,aye⟩:=(abx).aif (x1a.heap.size) a (OH (x:=a) arK) (by rw[um.out];omega) (by have:=HB.out;omega);have aqx:=(ayd _ (aC (aby)) (λe=>by have:=an2 _ e;omega)).trans (aby);have ayf:Kept (λq=>q=ba\/(Value.slice A1 n1 c1).ownBlock=some q\/(Value.slice A2 n2 c2).ownBlock=some q) w ava:=(ayb).trans (fE aye λq hq=>.inr (.inr hq));have aqy:=uC _ abz.blk aqx;have aHE:w.heap.size<ava:=aC aqx;obtain⟨B2,d2,rfl⟩:=abz.oK.form;obtain⟨m2,nJ⟩:=zF ((ss++[a]).length);rw[nJ] at aeg abz;refine Jn (.tmp 16) (.tmp 19) 47 rfl zL rfl rfl aeg ?_;refine di hK (λ_=>aqy) ?_;clear hK K;obtain⟨hCz,HZ,HKZ⟩:=zK3 aqy (zH abz) (zH ayf);have u0:=dw HZ.blk;have f0:=k8 _ ba 0 _ _ HZ.blk;refine aP.acF 17 (λ_=>hCz) ?_;refine aP.acF 18 (λ_=>hCz) ?_;refine aP.oe 19 ?_;(try simp only[Act.put,dG,dH,dI]);have y1:=dM (i:=0) (v:=(B1,m1,d1)) HZ.blk;simp only[List.setIfInBounds_toArray,List.set_cons_zero] at y1;have g0:=dw y1;have f1:=k8 _ ba 1 _ _ y1;refine aP.oe 20 ?_;(try simp only[Act.put,dG,dH,dI]);refine aP.oe 21 ?_;(try simp only[Act.put,dG,dH,dI]);refine aP.oe 22 ?_;(try simp only[Act.put,dG,dH,dI]);refine aP.dn ?_;gi_wp2
  go_end0
  refine⟨rfl,_,_,HZ.fin,?_⟩;exact((HKZ.out).setCell (p:=ba) (.inl (.inl rfl)) _).setCell (p:=⟨ba,1,none⟩) (.inl (.inl rfl)) _
 obtain⟨x1b,aID,avb,aHF,aik⟩:=af w1.drew (Zc #[a] 9);rw[show w1.drew.heap.size=w.heap.size+1 from e1] at avb;have avc:=(H1.out).below aik;have an5:=ae (uT.out) aik;have aCt:Kept (λq=>q=ba\/(Value.slice A1 n1 c1).ownBlock=some q\/(Value.slice A2 n2 c2).ownBlock=some q) w x1b:=(G9.out).trans (Qh aik);have aCu:=uC _ avc.blk an5;have aIE:w.heap.size<x1b:=aC an5;go_simp;refine di hK (λ_=>aCu) ?_;clear hK K;refine aP.on 7 λK hK=>?_;obtain⟨x2b,aIF,aCv,aHG,abA⟩:=af x1b (Zc #[a,b] 23);have avd:=(avc).below abA;have ail:=ae (an5) abA;have aCw:Kept (λq=>q=ba\/(Value.slice A1 n1 c1).ownBlock=some q\/(Value.slice A2 n2 c2).ownBlock=some q) w x2b:=(aCt).trans (Qh abA);have aCx:=uC _ avd.blk ail;have aIG:w.heap.size<x2b:=aC ail;have alp:=ae (avb) abA;go_simp;refine di hK (λ_=>aCx) ?_;clear hK K;refine aP.on 8 λK hK=>?_;obtain⟨aIH,x3b,agN,aim,ave,aCy⟩:=(avd).app1 (x1b.heap.size) (a,b) (VU (x:=(a,b)) aCv) (by rw[IZ.out];omega) (by have:=HB.out;omega);have ain:=(ave _ (aC (ail)) (λe=>by have:=aea _ e;omega)).trans (ail);have aCz:Kept (λq=>q=ba\/(Value.slice A1 n1 c1).ownBlock=some q\/(Value.slice A2 n2 c2).ownBlock=some q) w x3b:=(aCw).trans (fE aCy λq hq=>.inr (.inl hq));have aCA:=uC _ aim.blk ain;have avf:=(ave _ (aC (alp)) (λe=>by have:=aea _ e;omega)).trans (alp);have aII:w.heap.size<x3b:=aC ain;obtain⟨B1,d1,rfl⟩:=aim.ql.form;obtain⟨m1,iY⟩:=zF ((ns++[(a,b)]).length);rw[iY] at agN aim;refine Jn (.tmp 9) (.tmp 11) 37 rfl zL rfl rfl agN ?_;refine di hK (λ_=>aCA) ?_;clear hK K;refine aP.on 16 λK hK=>?_;obtain⟨aIJ,x4b,agO,aio,aCB,aCC⟩:=(aim).aif ((w.heap.size+1)) a (OH (x:=a) avf) (by rw[um.out];omega) (by have:=HB.out;omega);have avg:=(aCB _ (aC (ain)) (λe=>by have:=an2 _ e;omega)).trans (ain);have aCD:Kept (λq=>q=ba\/(Value.slice A1 n1 c1).ownBlock=some q\/(Value.slice A2 n2 c2).ownBlock=some q) w x4b:=(aCz).trans (fE aCC λq hq=>.inr (.inr hq));have avh:=uC _ aio.blk avg;have aIK:w.heap.size<x4b:=aC avg;obtain⟨B2,d2,rfl⟩:=aio.oK.form;obtain⟨m2,nJ⟩:=zF ((ss++[a]).length);rw[nJ] at agO aio;refine Jn (.tmp 16) (.tmp 19) 47 rfl zL rfl rfl agO ?_;refine di hK (λ_=>avh) ?_;clear hK K;obtain⟨hCz,HZ,HKZ⟩:=zK3 avh (zH aio) (zH aCD);have u0:=dw HZ.blk;have f0:=k8 _ ba 0 _ _ HZ.blk;refine aP.acF 17 (λ_=>hCz) ?_;refine aP.acF 18 (λ_=>hCz) ?_;refine aP.oe 19 ?_;(try simp only[Act.put,dG,dH,dI]);have y1:=dM (i:=0) (v:=(B1,m1,d1)) HZ.blk;simp only[List.setIfInBounds_toArray,List.set_cons_zero] at y1;have g0:=dw y1;have f1:=k8 _ ba 1 _ _ y1;refine aP.oe 20 ?_;(try simp only[Act.put,dG,dH,dI]);refine aP.oe 21 ?_;(try simp only[Act.put,dG,dH,dI]);refine aP.oe 22 ?_;(try simp only[Act.put,dG,dH,dI]);refine aP.dn ?_;gi_wp2
 go_end0
 refine⟨rfl,_,_,HZ.fin,?_⟩;exact((HKZ.out).setCell (p:=ba) (.inl (.inl rfl)) _).setCell (p:=⟨ba,1,none⟩) (.inl (.inl rfl)) _
section
open Go.Sort
theorem alB(w:World)(g n:Nat)(d:Array Nm)(os:Array Obj)(cur:Array Value)(hg:w.heap[g]?=some (.cells cur 23 (0,0))):∃cur',(sortWorldK dK 2 w g 0 n d os).heap[g]?=some (.cells cur' 23 (0,0))/\cur'.size=cur.size:=by
 have aN:=aC hg;have hs:(putRowK dK 2 (Sort.ahead w n) g 0 d).heap.size=w.heap.size:=size_putRow id (Sort.ahead w n) g 0 _;refine⟨putCells id 0 (flatK dK 2 d) cur,?_,by unfold putCells;simp⟩;show ((putRowK dK 2 (Sort.ahead w n) g 0 d).heap++os)[g]?=_;rw[Array.getElem?_append_left zO];show (w.heap.modify g (onCells _))[g]?=_;rw[Array.getElem?_modify,j6 rfl,hg];rfl
theorem arL{ns:List Nm}{cur:Array Value}(hg:w.heap[g]?=Zc cur 23)(hc:∀i x,ns[i]?=some x->cu w g (0+i*2) (dK x)):cur.toList.take (ns.length*2)=ns.flatMap dK:=by
 apply List.ext_getElem?;intro j;by_cases hj:j<ns.length*2
 ·have hq:j / 2<ns.length:=zO;have hx:ns[j / 2]?=ns[j / 2]:=z6 hq;have hf:=flat_get wX ns (j / 2) (j % 2) _ hx (Nat.mod_lt _ zD);rw[show j / 2*2+j % 2=j by omega] at hf;rw[Za hj,hf];have lW:j % 2<(dK ns[j / 2]).length:=Nat.mod_lt _ zD;have h1:=hc (j / 2) _ hx (j % 2) _ (z6 lW);rw[Ys w g _ _ _ _ hg,d9,show j / 2*2+j % 2=j by omega] at h1;rw[z6 lW];simpa using h1
 rw[List.getElem?_take_eq_none zO,JT (by rw[Be];omega)]
theorem ais(base:Nat)(l:List Nm)(v:Value)(w:World)(vP:ax w base 23 2 dK l v)(hB:base<=w)(hl:l.length<4000000):
 Cl 119 #[v,.func (.func 120) #[] #[]] w λe w'=>e= .returned (.tuple #[])/\∃ns,ns.Perm l/\ns.Pairwise (λx y=>jg y x=false)/\ax w' base 23 2 dK ns v/\w.grownBy w' v.ownBlock:=by
 rcases vP.2 with ⟨rfl,hn⟩ | ⟨g,cap,cur,rfl,hg,hh,GK,yg,mP,kU⟩
 ·have Me:l=[]:=g9 hn;subst Me;have h:=AnyF.slices_SortFunc_none Tryz.Xv none 0 (.func (.func 120) #[] #[]) w;refine Calls.mono (P:=prog) (f:=119) h ?_;rintro e w' ⟨rfl,rfl⟩;exact⟨rfl,[],List.Perm.refl _,List.Pairwise.nil,ax.nil _ _ _ _ _,⟨rfl,rfl,rfl,zR _,λ_ _ _=>rfl⟩⟩
 have dD:g<w:=aC hh;have h:=AnyQ.slices_SortFunc_total Tryz.Xv 2 (λw=>by kernel_rfl) (λw=>by kernel_rfl) dK wX (λx u hu=>by simp[dK] at hu;rcases hu with rfl | rfl<;>rfl) cmpL aCl 120 #[] g 0 cap l.toArray w (enters_of func120 zK rfl) (anU _ _ _ _) (yE hh kU) dD zS1 (λx y h k=>by rw[zB] at h k;exact vZ h k);rw[YV] at h;refine Calls.mono (P:=prog) (f:=119) h ?_;rintro e w' ⟨rfl,n,os,rfl⟩;obtain⟨ns,Jh⟩:=zF ((l.toArray.toList.mergeSort λx y=>!(ltOf cmpL) y x));have hp:ns.Perm l:=(by rw[<-Jh];exact List.mergeSort_perm _ _)
 have zo:ns.Pairwise (λx y=>jg y x=false):=by
  have:=List.pairwise_mergeSort (le:=λx y=>!(ltOf cmpL) y x) (λa b c h1 h2=>by
   simp only[zB,Bool.not_eq_true'] at*
   exact zM h2 h1) (λa b=>by
   simp only[zB]
   cases h1:jg b a with
   | false=>rfl
   | true=>
     cases h2:jg a b with
     | false=>rfl
     | true=>have:=vY h1 h2;rw[tH] at this;cases this) l.toArray.toList
  rw[Jh] at this;exact this.imp λh=>(by simpa[zB] using h)
 rw[Jh];have hlen:ns.length=l.length:=hp.length_eq;have hH:=holdsK_sortWorldK dK 2 w g 0 n l.toArray ns.toArray os dD (yE hh kU) (by simp[hlen]);obtain⟨cur',k1,k2⟩:=alB w g n ns.toArray os cur hh;refine⟨rfl,ns,hp,zo,?_,PE _⟩;refine⟨Be ns,.inr ⟨g,cap,cur',by rw[hlen],hg,k1,zO,yg,k2.trans mP,arL k1 (Kq hH)⟩⟩
end
