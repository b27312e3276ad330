import Derived.Test.YtgmnnegfndpakaaGreatDoorH29
set_option maxHeartbeats 20000000
set_option maxRecDepth 100000
namespace Go.Proofs.YtgmnnegfndpakaaGreatDoor
open Go.RowKit Go.Proofs.Tryz
variable{sets:List (List Nat)}{K c n q:Nat}{x nx:List Nat}{r:List (List Nat)×Int}{P:List Nat->Prop}{a:zZ}{jD:List Nat->Nat->List Nat}{w:World}{A:Option Addr}{F:Nat->Prop}{es:List (List D)}
def u8V(b:UInt8):List Value:=[.int .u8 (b.toNat:Int)]
theorem auf(b:UInt8):(u8V b).length=1:=rfl
theorem aug:(prog.info? 5).map (λi=>(i.zero,i.size,i.bytes))=some (some (.int .u8 0),1,1):=by kernel_rfl
theorem tyU:rC prog 173 5 (.int .u8 0) 1 1:=sU zK aug zK zD zD
theorem auh(l:List UInt8):∀u∈l.flatMap u8V,u.oneCell'=true:=by
 intro u hu;obtain⟨x,-,hx⟩:=List.mem_flatMap.1 hu;rw[og.1 hx];rfl
def keyS(s:Nat):List UInt8:=[UInt8.ofNat (s / 256),UInt8.ofNat (s % 256)]
def fH(l:List Nat):ByteArray:=⟨(l.flatMap keyS).toArray⟩
theorem anz{s t:Nat}(hs:s<65536)(ht:t<65536)(h:keyS s=keyS t):s=t:=by
 unfold keyS at h;simp only[i7,and_true] at h;have h1:=congrArg UInt8.toNat h.1;have h2:=congrArg UInt8.toNat h.2;simp only[UInt8.toNat_ofNat'] at h1 h2;omega
theorem adB:∀{l l':List Nat},(∀s∈l,s<65536)->(∀s∈l',s<65536)->l.flatMap keyS=l'.flatMap keyS->l=l'
 | [],[],_,_,_=>rfl
 | [],t::l',_,_,h=>by simp[keyS] at h
 | s::l,[],_,_,h=>by simp[keyS] at h
 | s::l,t::l',h1,h2,h=>by
   rw[l4,l4] at h;obtain⟨e1,e2⟩:=List.append_inj h (by simp[keyS]);rw[anz (h1 s zP) (h2 t zP) e1,adB (λx hx=>h1 x (by simp[hx])) (λx hx=>h2 x (by simp[hx])) e2]
theorem EM(l:List Nat)(A:Option Addr)(n c:Nat)(w:World)(F:Nat->Prop)(bQ:aY w F 1 aV l A n)(hn:n<1000000)(hl:∀s∈l,s<65536):
 Rt 58 #[(A,n,c)] w (fH l):=by
 have aI:=bQ.here (λx=>by simp[aV]);have HL:=zH hl;clear bQ hl;go_enter func58,ntmps58;go_wp2_with fail
 go_loopw [3,8] (λs3 si wr=>∃i:Nat,i<=n/\si= i/\ax wr w 5 1 u8V ((l.take i).flatMap keyS) s3/\Bw w wr)
  (λ_ si _=>n - (intOf si).toNat)
 case atStart=>exact⟨0,zO,rfl,ax.nil _ _ _ _ _,j9 _ _⟩
 obtain⟨i,hi,rfl,vP,dU⟩:=hrel;have Bz:=dU.size;by_cases aN:i<n
 ·obtain⟨b1,xU,s,HX,p0,dO⟩:=(aI.below dU).nat aN c;have hd:=zT1 (i<n);have hs:s<65536:=HL s (SK HX);obtain⟨w4,vV,XP,NU,aX⟩:=af wr (Zc #[.int .u8 ((s:Int) / 256),.int .u8 ((s:Int) % 256)] 5);have Ed:=vP.keep aX
  have IX:=Src.block (sz:=1) (m:=2) (vs:=(keyS s).flatMap u8V) (by
   have e:(keyS s).flatMap u8V=[.int .u8 ((s:Int) / 256),.int .u8 ((s:Int) % 256)]:=by
    unfold keyS u8V;simp only[l4,List.flatMap_nil,m8,m7,d6,UInt8.toNat_ofNat'];rw[Nat.mod_eq_of_lt (show s / 256<2 ^ 8 by omega),Nat.mod_eq_of_lt (show s % 256<2 ^ 8 by omega),show ((s / 256:Nat):Int)=(s:Int) / 256 by omega,show ((s % 256:Nat):Int)=(s:Int) % 256 by omega]
   rw[e];exact XP) rfl
  have hlen:((l.take i).flatMap keyS).length<=2*i:=by
   have key:∀l:List Nat,(l.flatMap keyS).length=2*l.length:=λl=>by
    induction l with
    | nil=>rfl
    | cons x l ih=>rw[l4,z5,ih,z9];simp only[keyS,z9,z24];omega
   rw[key,Ju];omega
  clear XP vP;have xW:=dU.trans (aX.mono Bz);have ahR:=xW.size
  go_wp2_with (first
   | (at_builtin;refine Am rfl (.tmp 12) (.tmp 18) 173 rfl tyU auh w _ (keyS s) _ rfl Ed _ 2 2 rfl IX rfl zO ahR ?_
      intro v5 w5 RZ hc5
      have Ov:=xW.trans hc5)
   | fail)
  go_roundw
  case rel=>
   refine⟨i+1,zO,by go_num,?_,Ov⟩;have h:=HX.out;obtain⟨h1,rfl⟩:=z4.1 h;rw[List.take_succ_eq_append_getElem h1,l6,l4,List.flatMap_nil,m8];exact RZ
  simp[intOf];omega
 have hd:=zT2 (i<n);have Xt:l.take i=l:=l8 (by have:=aI.len;omega);rw[Xt] at vP
 have hc:(convert 173 9 u3).run prog wr= .ok (fH l) wr:=by
  obtain⟨A',c',e,hr,-,-⟩:=vP.rowAt auf zD (λ_=>True) (λ_ _=>trivial);subst e
  cases A' with
  | none=>
    by_cases h0:(l.flatMap keyS).length=0
    ·have Me:l.flatMap keyS=[]:=List.length_eq_zero_iff.1 h0;unfold fH;rw[Me];show _=_;kernel_rfl
    obtain⟨b,off,hA,-⟩:=hr.2 zO;cases hA
  | some a=>
    unfold fH;refine run_convert_bytes_back wr 173 9 5 a c' (l.flatMap keyS) zK zK zK λj hj=>?_;obtain⟨b,off,hA,-,fJ⟩:=hr.2 zO;cases hA;have h:=fJ j _ (z6 hj) 0 _ rfl;by_cases hj0:j=0
    ·subst hj0;simpa[Addr.add] using h
    simpa[Addr.add,hj0] using h
 have HC:=zH hc;clear Xt vP;go_wp2_with fail;go_ret;exact⟨rfl,dU⟩
theorem YU{l l':List Nat}(h1:∀s∈l,s<65536)(h2:∀s∈l',s<65536)(h:fH l=fH l'):l=l':=by
 refine adB h1 h2 ?_;unfold fH at h;have:=congrArg (λb:ByteArray=>b.data.toList) h;simpa using this
theorem aaE(x y:List Nat):∀(l:List (List Nat)) (i:Nat),qR x (l++[y]) i=(match qR x l i with | some k=>some k | none=>if y=x then some (i+l.length) else none)
 | [],i=>by simp[qR]
 | z::l,i=>by
   rw[m7,qR,qR]
   split
   ·rfl
   rw[aaE x y l (i+1),z9]
   cases qR x l (i+1) with
   | some k=>rfl
   | none=>
     show (if y=x then some (i+1+l.length) else none)=if y=x then some (i+(l.length+1)) else none
     rw[show i+1+l.length=i+(l.length+1) by omega]
def acj(l:List (ByteArray×Int))(sets:List (List Nat)):Prop:=∀x:List Nat,(∀s∈x,s<65536)->dP eqS (fH x) l=(qR x sets 0).map λn=>(n:Int)
theorem acj.put{l:List (ByteArray×Int)}(h:acj l sets){y:List Nat}(hy:∀s∈y,s<65536)(hn:qR y sets 0=none):acj (jh eqS (fH y) (sets.length:Int) l) (sets++[y]):=by
 intro x hx;rw[Lr (λa b=>iV),h x hx,aaE];by_cases e:eqS (fH x) (fH y)=true
 ·obtain rfl:=YU hx hy (iV.1 e);rw[j6 e,hn];simp
 rw[j5 e];have dD:¬y=x:=λe'=>e (by rw[e'];exact iV.2 rfl)
 cases qR x sets 0 with
 | some k=>rfl
 | none=>simp[dD]
theorem acj.start:acj (jh eqS (fH [0]) (0:Int) []) [[0]]:=by
 have:=acj.put (l:=[]) (sets:=[]) (λx _=>rfl) (y:=[0]) (by intro s hs;rw[og] at hs;omega) rfl;simpa using this
theorem ahS(jD:Nat->List Nat){x:Nat}(h:x<K)(sets:List (List Nat))(row:List Int):mkRow jD ((List.range K).drop x) sets row=match tN (jD x) sets with
 | none=>none
 | some r=>mkRow jD ((List.range K).drop (x+1)) r.1 (row++[r.2]):=by
 have hx:x<(List.range K).length:=(by simpa using h);rw[nZ hx,List.getElem_range,mkRow];cases tN (jD x) sets<;>rfl
theorem afk(jD:List Nat->Nat->List Nat)(K f k:Nat){s:List Nat}(h:sets[k]?=s)(rows:List (List Int)):oU jD K (f+1) k sets rows=match mkRow (jD s) (List.range K) sets [] with
 | none=>none
 | some r=>oU jD K f (k+1) r.1 (rows++[r.2]):=by
 rw[oU,h]
 show (match mkRow (jD s) (List.range K) sets [] with
  | none=>none
  | some r=>oU jD K f (k+1) r.1 (rows++[r.2]))=_
 cases mkRow (jD s) (List.range K) sets []<;>rfl
theorem afl(jD:List Nat->Nat->List Nat)(K f k:Nat)(h:sets[k]?=none)(rows:List (List Int)):oU jD K f k sets rows=some (sets,rows):=by
 cases f with
 | zero=>rfl
 | succ f=>rw[oU,h]
theorem aen:∀{l:List (List Nat)} {i k:Nat},qR x l i=k->∃j,k=i+j/\l[j]?=x
 | [],i,k,h=>by simp[qR] at h
 | y::l,i,k,h=>by
   rw[qR] at h
   split at h
   ·rename_i he;obtain rfl:=zI h;exact⟨0,rfl,by rw[he];rfl⟩
   obtain⟨j,h1,h2⟩:=aen h;exact⟨j+1,zO,h2⟩
theorem aaQ:∀{l:List (List Nat)} {i:Nat},qR x l i=none->x ∉ l
 | [],i,_=>by simp
 | y::l,i,h=>by
   rw[qR] at h
   split at h
   ·cases h
   rename_i he;rw[TT,not_or];exact⟨λe=>he e.symm,aaQ h⟩
def MP(nx:List Nat)(sets:List (List Nat))(v:Int):Prop:=(nx=[]/\v= -1)\/(nx≠[]/\∃j:Nat,sets[j]?=nx/\v=(j:Int))
theorem MP.up{more:List (List Nat)}{v:Int}(h:MP nx sets v):MP nx (sets++more) v:=by
 rcases h with h | ⟨h0,j,h1,h2⟩
 ·exact .inl h
 exact .inr ⟨h0,j,by rw[z20 (z4.1 h1).1];exact h1,h2⟩
theorem aaR(h:tN nx sets=r):(∃more,r.1=sets++more/\(more=[]\/(more=[nx]/\nx≠[]/\nx ∉ sets/\sets.length<1000)))/\MP nx r.1 r.2:=by
 unfold tN at h
 split at h
 ·rename_i h0;obtain rfl:=zI h;exact⟨⟨[],zP,.inl rfl⟩,.inl ⟨h0,rfl⟩⟩
 rename_i h0
 split at h
 ·rename_i i hi;obtain rfl:=zI h;obtain⟨j,h1,h2⟩:=aen hi;exact⟨⟨[],zP,.inl rfl⟩,.inr ⟨h0,i,by rw[show i=j by omega];exact h2,rfl⟩⟩
 rename_i hn
 split at h
 ·cases h
 rename_i hl;obtain rfl:=zI h;exact⟨⟨[nx],rfl,.inr ⟨rfl,h0,aaQ hn,zO⟩⟩,.inr ⟨h0,sets.length,zP,rfl⟩⟩
structure Grown (P:List Nat->Prop) (sets lS:List (List Nat)):Prop where
 pre:∃more,lS=sets++more/\∀s∈more,s≠[]/\P s
 nd:sets.Nodup->lS.Nodup
 len:sets.length<=1000->lS.length<=1000
theorem Grown.refl(P:List Nat->Prop)(sets:List (List Nat)):Grown P sets sets:=⟨⟨[],zP,zP⟩,id,id⟩
theorem Grown.trans{a b c:List (List Nat)}(h:Grown P a b)(k:Grown P b c):Grown P a c:=by
 obtain⟨m1,h1,h2⟩:=h.pre;obtain⟨m2,k1,k2⟩:=k.pre;refine⟨⟨m1++m2,by rw[k1,h1,d7],λs hs=>?_⟩,λhn=>k.nd (h.nd hn),λhl=>k.len (h.len hl)⟩
 rcases z12.1 hs with hs | hs
 ·exact h2 s hs
 exact k2 s hs
theorem aeo(hP:P nx)(h:tN nx sets=r):Grown P sets r.1:=by
 obtain⟨⟨more,h1,h2⟩,-⟩:=aaR h
 rcases h2 with rfl | ⟨rfl,h3,h4,h5⟩
 ·rw[m8] at h1;rw[h1];exact Grown.refl _ _
 refine⟨⟨[nx],h1,λs hs=>by rw[og] at hs;subst hs;exact⟨h3,hP⟩⟩,λhn=>?_,λhl=>by rw[h1];simp;omega⟩;rw[h1];exact List.nodup_append.2 ⟨hn,zP,λa ha b hb e=>h4 (by rw[og] at hb;rw[<-hb,<-e];exact ha)⟩
theorem VX{jD:Nat->List Nat}(hP:∀x,P (jD x)):∀(xs:List Nat) (sets:List (List Nat)) (row:List Int) (r:List (List Nat)×List Int),mkRow jD xs sets row=r->
 Grown P sets r.1/\∃new:List Int,r.2=row++new/\new.length=xs.length/\∀(i x:Nat),xs[i]?=x->∃v,new[i]?=some v/\MP (jD x) r.1 v
 | [],sets,row,r,h=>by
   rw[mkRow] at h;obtain rfl:=zI h;exact⟨Grown.refl _ _,[],zP,rfl,λi x hx=>by simp at hx⟩
 | x::xs,sets,row,r,h=>by
   rw[mkRow] at h
   split at h
   ·cases h
   rename_i c hc;obtain⟨h1,new,h2,h3,h4⟩:=VX hP xs c.1 _ r h;refine⟨(aeo (hP x) hc).trans h1,c.2::new,by rw[h2,d7];rfl,by simp[h3],λi y hy=>?_⟩
   cases i with
   | zero=>
     obtain rfl:x=y:=(by simpa using hy);obtain⟨more,hm,-⟩:=h1.pre;exact⟨c.2,rfl,by rw[hm];exact(aaR hc).2.up⟩
   | succ i=>exact h4 i y (by simpa using hy)
structure OO (jD:List Nat->Nat->List Nat) (K:Nat) (sets:List (List Nat)) (rows:List (List Int)):Prop where
 row:∀(k:Nat) (r:List Int),rows[k]?=r->r.length=K/\∃s,sets[k]?=some s/\∀x,x<K->∃v,r[x]?=some v/\MP (jD s x) sets v
theorem aaS(hP:∀s x,P (jD s x)):∀(f k:Nat) (sets:List (List Nat)) (rows:List (List Int)) (r:List (List Nat)×List (List Int)),k=rows.length->OO jD K sets rows->sets.length<=1000->1000<f+k->oU jD K f k sets rows=r->
 Grown P sets r.1/\OO jD K r.1 r.2/\r.2.length=r.1.length\/r.1.length<rows.length
 | 0,k,sets,rows,r,hk,ht,hl,hf,h=>by
   rw[oU] at h;obtain rfl:=zI h;exact .inr (by show sets.length<rows.length;omega)
 | f+1,k,sets,rows,r,hk,ht,hl,hf,h=>by
   rw[oU] at h
   cases hs:sets[k]? with
   | none=>
     rw[hs] at h;obtain rfl:=zI h;rw[z22] at hs;by_cases he:rows.length=sets.length
     ·exact .inl ⟨Grown.refl _ _,ht,he⟩
     exact .inr (by show sets.length<rows.length;omega)
   | some s=>
     rw[hs] at h;dsimp only at h
     cases hr:mkRow (jD s) (List.range K) sets [] with
     | none=>rw[hr] at h;cases h
     | some c=>
       rw[hr] at h;dsimp only at h;obtain⟨hg,new,h2,h3,h4⟩:=VX (P:=P) (hP s) _ _ _ _ hr;rw[d6] at h2;obtain⟨more,hm,-⟩:=hg.pre
       have E8:OO jD K c.1 (rows++[c.2]):=⟨λj r' hj=>by
        rw[List.getElem?_append] at hj;by_cases hjl:j<rows.length
        ·rw[j6 hjl] at hj;obtain⟨a1,s',a2,a3⟩:=ht.row j r' hj;refine⟨a1,s',by rw[hm,z20 (z4.1 a2).1];exact a2,λx hx=>?_⟩;obtain⟨v,b1,b2⟩:=a3 x hx;exact⟨v,b1,by rw[hm];exact b2.up⟩
        rw[j5 hjl] at hj
        have e1:j - rows.length=0:=by
         have:=(z4.1 hj).1;simp at this;omega
        rw[e1] at hj;obtain rfl:c.2=r':=(by simpa using hj);refine⟨by rw[h2,h3,List.length_range],s,?_,λx hx=>?_⟩
        ·rw[show j=k by omega,hm,z20 (z4.1 hs).1];exact hs
        obtain⟨v,b1,b2⟩:=h4 x x (by rw[List.getElem?_range hx])
        exact⟨v,by rw[h2];exact b1,b2⟩⟩
       rcases aaS hP f (k+1) c.1 (rows++[c.2]) r zS1 E8 (hg.len hl) zO h with ⟨a1,a2,a3⟩ | a1
       ·exact .inl ⟨hg.trans a1,a2,a3⟩
       exfalso;have fM:=(z4.1 hs).1
       have zV:∀(f k:Nat) (sets:List (List Nat)) (rows:List (List Int)) (r:List (List Nat)×List (List Int)),oU jD K f k sets rows=r->sets.length<=r.1.length:=by
        intro f
        induction f with
        | zero=>intro k sets rows r h;rw[oU] at h;obtain rfl:=zI h;exact zR _
        | succ f ih=>
          intro k sets rows r h;rw[oU] at h
          split at h
          ·obtain rfl:=zI h;exact zR _
          split at h
          ·cases h
          rename_i c' yu;have h1:=ih _ _ _ _ h;obtain⟨FK,-⟩:=VX (P:=P) (hP _) _ _ _ _ yu;obtain⟨m',O3,-⟩:=FK.pre;rw[O3] at h1;rw[z5] at h1;omega
       have h5:=zV _ _ _ _ _ h;rw[hm,z5] at h5;rw[z5,TQ] at a1;omega
theorem aiu(hP:∀s x,P (jD s x)){r:List (List Nat)×List (List Int)}(h:oU jD K 1001 0 [[0]] []=r):
 Grown P [[0]] r.1/\OO jD K r.1 r.2/\r.2.length=r.1.length:=by
 rcases aaS hP 1001 0 [[0]] [] r rfl ⟨λk r h=>by simp at h⟩ zP zO h with h1 | h1
 ·exact h1
 simp at h1
theorem aaT(mark:List Nat->Bool):∀(l:List (List Nat)) (i:Nat) (n:Int),(wR mark l i n).length=l.length
 | [],_,_=>rfl
 | s::l,i,n=>by
   rw[wR]
   split<;>simp[aaT mark l]
def LJ(nums:List Int)(t:Int):Int:=if 0<=t then (nums[t.toNat]?).getD 0 else t
section
variable {mark fin:List Nat->Bool} {jD:List Nat->Nat->List Nat} {K:Nat} {sets:List (List Nat)} {rows:List (List Int)} {a:zZ}
end
theorem adY(a:ByteArray)(h:0<n):dL a n=a++⟨(Lib.decDigits n).toArray⟩:=by
 unfold dL pG;rw[j5 zO]
theorem aaL(n:Nat):n<1000000000->(Lib.decDigits n).length<1000000001:=λh=>by
 have:=YT n;omega
theorem azk{p:Prop} (h:p:=by
 obtain⟨i,hi,rfl,dU⟩:=hrel;obtain⟨v,hv⟩:=zF (tk i);have HV:=zH hv;by_cases h0:0<i
 ·have hd:=zT1 (0<i);obtain⟨d,J4⟩:=zF (Lib.decDigits i);have HN:Hid (dL pre i=pre++⟨d.toArray⟩):=zH (by rw[<-J4];exact adY pre h0)
  have hdl:d.length<1000000001:=by
   have:=aaL i zO;rw[J4] at this;exact this
  have hL:=zT2 (9223372036854775807<pre.size+d.length);have HD:=zH (XO i zO wr);rw[J4] at HD;clear J4;go_wp2_with fail;refine HD.mono ?_;rintro e w2 ⟨rfl,ag⟩;have aH:=dU.trans (ag.mono dU.size);have HC:=zH (vJ i hi w2 aH);rw[HN.out,hv] at HC;clear hv;cases v
  ·go_wp2_with fail;refine HC.mono ?_;rintro e w3 ⟨rfl,az⟩;have aX:=aH.trans (az.mono aH.size)
   have he:Hid (i=I):=zH (by
    rcases i8 i I with h | h
    ·have:=HI.2 i h;rw[HV.out] at this;cases this
    omega)
   go_wp2_with fail;go_ret;exact⟨by rw[<-he.out,HN.out];rfl,aX⟩
  go_wp2_with fail;refine HC.mono ?_;rintro e w3 ⟨rfl,az⟩;have aX:=aH.trans (az.mono aH.size)
  have he:i<I:=by
   rcases i8 i I with h | h
   ·exact h
   have e:i=I:=zO;have:=HI.1;rw[<-e,HV.out] at this;cases this
  go_wp2_with fail;go_roundw
  case rel=>exact⟨i+1,zO,by go_num,aX⟩
  simp[intOf];omega
 have hd:=zT2 (0<i);have HN:Hid (dL pre i=pre):=zH (by rw[show i=0 by omega];exact Rw pre);have HC:=zH (vJ i hi wr dU);rw[HN.out,hv] at HC;clear hv;cases v
 ·go_wp2_with fail;refine HC.mono ?_;rintro e w3 ⟨rfl,az⟩;have aX:=dU.trans (az.mono dU.size)
  have he:Hid (i=I):=zH (by
   rcases i8 i I with h | h
   ·have:=HI.2 i h;rw[HV.out] at this;cases this
   omega)
  go_wp2_with fail;go_ret;exact⟨by rw[<-he.out,HN.out];rfl,aX⟩
 go_wp2_with fail;refine HC.mono ?_;rintro e w3 ⟨rfl,az⟩;have aX:=dU.trans (az.mono dU.size)
 have he:i<I:=by
  rcases i8 i I with h | h
  ·exact h
  have e:i=I:=zO;have:=HI.1;rw[<-e,HV.out] at this;cases this
 go_wp2_with fail;go_roundw
 case rel=>exact⟨i+1,zO,by go_num,aX⟩
 simp[intOf];omega):p:=h
theorem adZ(g1 g2:Nat)(pre:ByteArray)(tk:Nat->Bool)(I:Nat)(hI:tk I=false/\∀i,i<I->tk i=true)(hb:I<1000000)(hp:pre.size<1000000000)(w:World)
 (eH:∀k,k<=I->∀W:World,Bw w W->Rt 128 #[.string (dL pre k),(g1,0),(g2,0)] W (.bool (tk k))):
 Rt 127 #[pre,.func (.func 128) #[] #[(g1,0),(g2,0)]] w (dL pre I):=by
 obtain⟨HI,vJ⟩:=zJ2 hI eH;clear hI eH;go_enter func127,ntmps127;go_wp2_with fail
 go_loopw [5] (λsi wr=>∃i:Nat,i<=I/\si= i/\Bw w wr)
  (λsi _=>I - (intOf si).toNat)
 case atStart=>exact⟨0,zO,rfl,j9 _ _⟩
 exact azk
theorem ad1(g1:Nat)(pre:ByteArray)(tk:Nat->Bool)(I:Nat)(hI:tk I=false/\∀i,i<I->tk i=true)(hb:I<1000000)(hp:pre.size<1000000000)(w:World)
 (eH:∀k,k<=I->∀W:World,Bw w W->Rt 130 #[.string (dL pre k),(g1,0)] W (.bool (tk k))):
 Rt 127 #[pre,.func (.func 130) #[] #[(g1,0)]] w (dL pre I):=by
 obtain⟨HI,vJ⟩:=zJ2 hI eH;clear hI eH;go_enter func127,ntmps127;go_wp2_with fail
 go_loopw [5] (λsi wr=>∃i:Nat,i<=I/\si= i/\Bw w wr)
  (λsi _=>I - (intOf si).toNat)
 case atStart=>exact⟨0,zO,rfl,j9 _ _⟩
 exact azk
theorem alh(s:ByteArray)(l:List ByteArray)(A:Option Addr)(n c:Nat)(w:World)(F:Nat->Prop)(bQ:aY w F 1 mG l A n)(hn:n<6000000000000):
 Rt 80 #[(A,n,c),s] w (kE (λx=>eqS s x) l 0):=by
 have aI:=bQ.here (λx=>by simp[mG]);clear bQ;go_enter func80,ntmps80;go_wp2_with fail
 go_loopw [5,8] (λs5 si wr=>∃i:Nat,i<=n/\si= i/\Hid (kE (λx=>eqS s x) l 0=kE (λx=>eqS s x) (l.drop i) i)/\Bw w wr)
  (λ_ si _=>n - (intOf si).toNat)
 case atStart=>exact⟨0,zO,rfl,zH rfl,j9 _ _⟩
 obtain⟨i,hi,rfl,HL,dU⟩:=hrel;by_cases aN:i<n
 ·obtain⟨b',off,x,HX,p0,dO⟩:=(aI.below dU).str aN c;have hd:=zT1 (i<n);obtain⟨v,hv⟩:=zF (eqS s x);have e2:=(Yl s x).trans hv;have HS:=zH (yL (p:=λx=>eqS s x) HX);rw[hv] at HS;clear hv;cases v
  ·go_wp2_with fail;go_roundw
   case rel=>exact⟨i+1,zO,by go_num,zH (by rw[HL.out,HS.out];rfl),dU⟩
   simp[intOf];omega
  go_wp2_with fail;go_ret;exact⟨iU (by rw[HL.out,HS.out];rfl),dU⟩
 have hd:=zT2 (i<n);have zU:l.drop i=[]:=z14 (by have:=aI.len;omega);have HE:=zH zU;clear zU;go_wp2_with fail;go_ret;exact⟨iU (by rw[HL.out,HE.out];rfl),dU⟩
theorem ad2(s:ByteArray)(l:List ByteArray)(A:Option Addr)(n c:Nat)(w:World)(F:Nat->Prop)(bQ:aY w F 1 mG l A n)(hn:n<6000000000000):
 Rt 131 #[(A,n,c),s] w (l.any λx=>eqS s x:Bool):=by
 have HC:=zH (alh s l A n c w F bQ hn);obtain⟨r,hr⟩:=zF (kE (λx=>eqS s x) l 0);have HD:Hid (decide (0<=r)=l.any λx=>eqS s x):=zH (by rw[<-hr];exact tY (λx=>eqS s x) l 0);rw[hr] at HC;clear bQ hr;go_enter func131,ntmps131;go_wp2_with fail;refine HC.mono ?_;rintro e w2 ⟨rfl,ag⟩;go_wp2_with fail;go_ret;exact⟨aK HD,ag⟩
def yH(w:World)(ba:Nat)(a:zZ)(nA:Option Addr)(nn nc:Nat)(sA:Option Addr)(sn sc:Nat):Prop:=
 w.heap[ba]?=Zc #[(nA,nn,nc),(sA,sn,sc)] 129/\aY w (· <w) 2 dK a.names nA nn/\aY w (· <w) 1 mG a.spaces sA sn/\nn<1000000/\sn<1000000
theorem yH.below{w':World}{ba:Nat}{nA:Option Addr}{nn nc:Nat}{sA:Option Addr}{sn sc:Nat}(h:yH w ba a nA nn nc sA sn sc)(hb:Bw w w'):yH w' ba a nA nn nc sA sn sc:=by
 obtain⟨h1,h2,h3,h4,h5⟩:=h;have hs:=hb.size;exact⟨ae h1 hb,(h2.below hb).imp λb (h:b<w)=>by omega,(h3.below hb).imp λb (h:b<w)=>by omega,h4,h5⟩
theorem aic(a:zZ)(s:ByteArray)(ba g1:Nat)(nA:Option Addr)(nn nc:Nat)(sA:Option Addr)(sn sc:Nat)(w:World)(h:yH w ba a nA nn nc sA sn sc)(hg:w.heap[g1]?=Zc #[(ba,0)] 91):
 Rt 130 #[s,(g1,0)] w (a.spaces.any λx=>eqS s x:Bool):=by
 obtain⟨h1,h2,h3,h4,h5⟩:=h;obtain⟨v,hv⟩:=zF ((a.spaces.any λx=>eqS s x));have HC:=zH (ad2 s a.spaces sA sn sc w _ h3 zO);rw[hv] at HC ⊢;have c0:=aO hg;have d0:=dw h1;clear h1 h2 h3 hg hv;go_enter func130,ntmps130;go_wp2_with fail;refine HC.mono ?_;rintro e w2 ⟨rfl,ag⟩;go_wp2_with fail;go_ret;exact⟨rfl,ag⟩
theorem aid(a:zZ)(s x:ByteArray)(ba g1 g2:Nat)(nA:Option Addr)(nn nc:Nat)(sA:Option Addr)(sn sc:Nat)(w:World)(h:yH w ba a nA nn nc sA sn sc)(hg:w.heap[g1]?=Zc #[(ba,0)] 91)(qo:w.heap[g2]?=Zc #[s] 9):
 Rt 128 #[x,(g1,0),(g2,0)] w (ru a.names s x):=by
 obtain⟨h1,h2,h3,h4,h5⟩:=h;obtain⟨v,hv⟩:=zF (ru a.names s x)
 have hc:∀W,Bw w W->Rt 129 #[(nA,nn,nc),.agg #[s,x]] W v:=λW hb=>by
  rw[<-hv];exact J7 s x a.names nA nn nc W _ (h2.below hb) zO
 have HC:=zH hc;rw[hv];have c0:=aO hg;have c1:=aO qo;obtain⟨d0,d1⟩:=dw h1;clear h1 h2 h3 hg qo hv hc;go_enter func128,ntmps128;go_wp2_with fail;have k0:=Since.cell c0;have k1:=Since.cell c1;have k2:=Since.cell d0;refine yh zK zK ?_
 repeat (quiet_step (first
  | (go_at_call_of 129 (Value.slice nA nn nc);exact Eo (HC _ (Since.below _)))))
 refine wpQuiet_nil ?_;intro wq hq;have Xo:=Ap hq;clear hq;go_wp2_with fail;go_ret;exact⟨rfl,Xo⟩
theorem UX{tk:Nat->Bool}(h:∃i,i<=n/\tk i=false):tk (AZ tk n)=false/\(∀i,i<AZ tk n->tk i=true)/\AZ tk n<=n:=by
 unfold AZ
 cases hf:(List.range (n+1)).find? λk=>!tk k with
 | none=>
   rw[List.find?_eq_none] at hf;obtain⟨i,h1,h2⟩:=h;have:=hf i (List.mem_range.2 zO);rw[h2] at this;simp at this
 | some I=>
   rw[List.find?_range_eq_some] at hf;obtain⟨h1,h2,h3⟩:=hf;rw[Option.getD_some];exact⟨by simpa using h1,λi hi=>by simpa using h3 i hi,by have:=List.mem_range.1 h2;omega⟩
theorem afp(l:List Nm)(s:ByteArray):∃i,i<=l.length/\ru l s (dL xB i)=false:=by
 obtain⟨i,h1,h2⟩:=EU (λi=>(s,dL xB i)) (λi j h=>Nu (Prod.mk.inj h).2) l;refine⟨i,h1,?_⟩
 cases h:ru l s (dL xB i) with
 | false=>rfl
 | true=>exact absurd ((Nr _ _ _).1 h) h2
theorem afq(l:List ByteArray):∃i,i<=l.length/\(l.any λx=>eqS (dL EN i) x)=false:=by
 obtain⟨i,h1,h2⟩:=EU (λi=>dL EN i) (λi j h=>Nu h) l;refine⟨i,h1,?_⟩
 cases h:l.any λx=>eqS (dL EN i) x with
 | false=>rfl
 | true=>
   rw[Qc] at h;obtain⟨x,hx,he⟩:=h;exact absurd (iV.1 he ▸ hx) h2
theorem aCk(l:List Nm)(a b:ByteArray):l.any (eqN (a,b))=ru l a b:=by
 rw[m9,Qc,Nr];constructor
 ·rintro⟨x,hx,he⟩;rw[(jM _ _).1 he];exact hx
 exact λh=>⟨_,h,(jM _ _).2 rfl⟩
theorem anQ{x:Nat}{n:Nm}(h:a.names[x]?=n):iJ a x=n:=by unfold iJ;rw[h]
theorem anR{y:Nat}{s:ByteArray}(h:a.spaces[y]?=s):iJ a (a.names.length+y)=(s,dL xB (AZ (λk=>ru a.names s (dL xB k)) a.names.length)):=by
 unfold iJ;rw[JT zO,show a.names.length+y - a.names.length=y by omega,h];simp only[aCk]
theorem anS{x:Nat}(h:a.names.length+a.spaces.length<=x):iJ a x=(dL EN (AZ (λk=>a.spaces.any λz=>eqS (dL EN k) z) a.spaces.length),xB):=by
 unfold iJ;rw[JT zO,JT zO]
theorem aie(a:zZ)(x:Nat)(ba:Nat)(nA:Option Addr)(nn nc:Nat)(sA:Option Addr)(sn sc:Nat)(w:World)(h:yH w ba a nA nn nc sA sn sc)(hx:nn+sn<=x)(hxb:x<1000000000):
 Rt 60 #[(ba,0),x] w (.agg #[(iJ a x).1,(iJ a x).2]):=by
 obtain⟨w1,bI,S1,S2,nC,ai⟩:=ed w (Zc #[(ba,0)] 91) (Zc #[.string ⟨#[]⟩,.string ⟨#[]⟩] 23);have HA:=zH (h.below ai);have hP:=UX (afq a.spaces);obtain⟨I,hI⟩:=zF (AZ (λk=>a.spaces.any λz=>eqS (dL EN k) z) a.spaces.length);have bZ:=anS (a:=a) (x:=x) (by have:=h.2.1.1;have:=h.2.2.1.1;omega);rw[hI] at hP bZ;have hIb:I<1000000:=(by have:=hP.2.2;have:=h.2.2.1.1;have:=h.2.2.2.2;omega);have lV:=S1;obtain⟨HF,sV,c0,d0,gY,yB,qY⟩:=zK7 (zH (ad1 w EN (λk=>a.spaces.any λz=>eqS (dL EN k) z) I ⟨hP.1,hP.2.1⟩ hIb zD w1 λk _ W hb=>aic a (dL EN k) ba w nA nn nc sA sn sc W ((h.below ai).below hb) (ae lV hb))) (zH bZ) (aO S1) (dw HA.1) (zH S2) h.2.2.2.1 h.2.2.2.2;have gJ:=zT2 (x<nn);have jc:=zT2 ((x:Int) - (nn:Int)<(sn:Int));clear h bZ hP lV S1 S2 hI;go_enter func60,ntmps60;go_wp2_with fail;refine HF.mono ?_;rintro e w2 ⟨rfl,ag⟩;have S3:=ae gY ag;have f0:=zF2 w2 (w.heap.size+1) S3;have e0:=dw S3;have vC:=zH S3;clear S3;go_wp2_with fail;have SF:=Fb (v:=.string ⟨#[120]⟩) (Fa (v:=(dL EN I)) vC);obtain⟨z0,z1⟩:=dw SF;clear SF;refine Qg (v:=.agg #[(dL EN I),.string ⟨#[120]⟩]) (by simp[results,results60,go_sem,z0,z1]) rfl ?_;exact⟨by rw[sV.out];rfl,((ai.seq ag).setCell (p:=⟨w.heap.size+1,0,none⟩) (Nat.le_add_right _ _) _).setCell (p:=⟨w.heap.size+1,1,none⟩) (Nat.le_add_right _ _) _⟩
theorem afr(a:zZ)(x:Nat)(ba:Nat)(nA:Option Addr)(nn nc:Nat)(sA:Option Addr)(sn sc:Nat)(w:World)(h:yH w ba a nA nn nc sA sn sc)(hx:x<nn):
 Rt 60 #[(ba,0),x] w (.agg #[(iJ a x).1,(iJ a x).2]):=by
 obtain⟨w1,bI,S1,S2,nC,ai⟩:=ed w (Zc #[(ba,0)] 91) (Zc #[.string ⟨#[]⟩,.string ⟨#[]⟩] 23);have HA:=zH (h.below ai);obtain⟨b',off,x1,x2,HX,p0,p1,dO⟩:=HA.2.1.name hx nc;obtain⟨sV,c0,d0,gY,yB⟩:=zK5 (zH (anQ HX)) (aO S1) (dw HA.1) (zH S2) h.2.2.2.1;have gJ:=zT1 (x<nn);have f0:=zF2 w1 (w.heap.size+1) S2;have e0:=dw S2;clear h S1 S2;go_enter func60,ntmps60;go_wp2_with fail;have SF:=Fb (v:=x2) (Fa (v:=x1) gY);obtain⟨z0,z1⟩:=dw SF;clear SF;refine Qg (v:=.agg #[x1,x2]) (by simp[results,results60,go_sem,z0,z1]) rfl ?_;exact⟨by rw[sV.out],(ai.setCell (p:=⟨w.heap.size+1,0,none⟩) (Nat.le_add_right _ _) _).setCell (p:=⟨w.heap.size+1,1,none⟩) (Nat.le_add_right _ _) _⟩
theorem ali(a:zZ)(y:Nat)(ba:Nat)(nA:Option Addr)(nn nc:Nat)(sA:Option Addr)(sn sc:Nat)(w:World)(h:yH w ba a nA nn nc sA sn sc)(hy:y<sn):
 Rt 60 #[(ba,0),((nn:Int)+(y:Int):Int)] w (.agg #[(iJ a (nn+y)).1,(iJ a (nn+y)).2]):=by
 obtain⟨w1,bI,S1,S2,nC,ai⟩:=ed w (Zc #[(ba,0)] 91) (Zc #[.string ⟨#[]⟩,.string ⟨#[]⟩] 23);have HA:=zH (h.below ai);obtain⟨b',off,s,HX,p0,dO⟩:=HA.2.2.1.str hy sc;obtain⟨w2,mJ,S3,uS,ag⟩:=af w1 (Zc #[s] 9);have qZ:=zH (HA.below ag);have hP:=UX (afp a.names s);obtain⟨I,hI⟩:=zF (AZ (λk=>ru a.names s (dL xB k)) a.names.length);have bZ:=anR (a:=a) HX;have hnl:nn=a.names.length:=h.2.1.1;rw[hI] at hP bZ;rw[<-hnl] at bZ;have hIb:I<1000000:=(by have:=hP.2.2;have:=h.2.2.2.1;omega);have lV:=ae S1 ag;have qo:=S3;obtain⟨HF,sV,c0,LW,c5,d0,gY,yB⟩:=zK8 (zH (λ(W:World) (mV:Bw w2 W)=>adZ w w1 xB (λk=>ru a.names s (dL xB k)) I ⟨hP.1,hP.2.1⟩ hIb zD W λk _ W' hb=>aid a s (dL xB k) ba w w1 nA nn nc sA sn sc W' ((qZ.below mV).below hb) (ae (ae lV mV) hb) (ae (ae qo mV) hb))) (zH bZ) (aO S1) (aO lV) (aO qo) (dw HA.1) (zH (ae S2 ag)) h.2.2.2.1;have qY:=h.2.2.2.2;have gJ:=zT2 ((nn:Int)+(y:Int)<(nn:Int));have jc:=zT1 ((nn:Int)+(y:Int) - (nn:Int)<(sn:Int));have auz:∀W,(Instr.indexAt 47 (sA,sn,sc) ((nn:Int)+(y:Int) - (nn:Int):Int)).run prog W= .ok (b',off+y) W:=λW=>(by rw[show (nn:Int)+(y:Int) - (nn:Int)=(y:Int) by omega];exact dO W);clear h bZ hP lV qo S1 S2 S3 hI hnl;go_enter func60,ntmps60;go_wp2_with fail
 go_region_with
  (first | (go_at_call 127;refine (HF _ (by first | exact j9 _ _ | exact(j9 _ _).drewN _ | exact(j9 _ _).drew)).mono ?_
            rintro e w3 ⟨rfl,az⟩;have BD:Bw w2 w3:=⟨az.os,az.tape,az.output,az.size,az.block⟩;have S3:=ae gY BD;have f0:=zF2 w3 (w.heap.size+1) S3;have e0:=dw S3;have c6:w3.cell? w1=s:=(BD.cell (j8 w2 _ c5)).trans c5;obtain⟨vC,anT⟩:=zJ2 S3 BD
            clear S3 BD))
 all_goals
  go_wp2_with fail;have SF:=Fb (v:=(dL xB I)) (Fa (v:=s) vC);obtain⟨z0,z1⟩:=dw SF;clear SF;refine Qg (v:=.agg #[s,(dL xB I)]) (by simp[results,results60,go_sem,z0,z1]) rfl ?_;have dY:Bw w w3:=(ai.seq ag).seq anT;exact⟨by rw[sV.out],(dY.setCell (p:=⟨w.heap.size+1,0,none⟩) (Nat.le_add_right _ _) _).setCell (p:=⟨w.heap.size+1,1,none⟩) (Nat.le_add_right _ _) _⟩
theorem SI(a:zZ)(x:Nat)(ba:Nat)(nA:Option Addr)(nn nc:Nat)(sA:Option Addr)(sn sc:Nat)(w:World)(h:yH w ba a nA nn nc sA sn sc)(hxb:x<1000000000):
 Rt 60 #[(ba,0),x] w (.agg #[(iJ a x).1,(iJ a x).2]):=by
 by_cases h1:x<nn
 ·exact afr a x ba nA nn nc sA sn sc w h h1
 by_cases h2:x<nn+sn
 ·obtain⟨y,rfl⟩:∃y,x=nn+y:=⟨x - nn,zO⟩;exact(show ((nn+y:Nat):Int)=(nn:Int)+(y:Int) by omega) ▸ ali a y ba nA nn nc sA sn sc w h zO
 exact aie a x ba nA nn nc sA sn sc w h zO hxb
def aeO(e:List D):Prop:=∃v r,e= .val v::r/\∀A n c,v≠.slice A n c
mutual
def nsV:D->Prop
 | .val _=>True
 | .sl _ es=>uN es
def uN:List (List D)->Prop
 | []=>True
 | e::es=>(aeO e/\zG e)/\uN es
def zG:List D->Prop
 | []=>True
 | d::ds=>nsV d/\zG ds
end
def SlB(w:World)(q:Nat):Prop:=∀off v,w.cell? ⟨q,off,none⟩=some v->∃A n c,v= .slice A n c
theorem al4{t:TypeId}(h:w.heap[q]?=Zc #[(A,n,c)] t):SlB w q:=λoff v hv=>by
 rw[Ys w q _ _ _ _ h] at hv
 cases off with
 | zero=>exact⟨A,n,c,by simpa using hv.symm⟩
 | succ k=>simp at hv
theorem aeO.ne{b off:Nat}{e:List D}{cs:List Value}(he:aeO e)(hq:SlB w q)(hc:cu w b off cs)(hr:au w F e cs):b≠q:=λh=>by
 subst h;obtain⟨v,r,rfl,hv⟩:=he;rw[au.gu] at hr;obtain⟨u,r',rfl,h1,-⟩:=hr;rw[gI.rq] at h1;subst h1;obtain⟨A,n,c,e⟩:=hq _ _ (hc 0 u rfl);exact hv A n c e
mutual
theorem gI.yI(hq:SlB w q):∀(d:D) (v:Value),nsV d->gI w F d v->gI w (λk=>F k/\k≠q) d v
 | .val v,u,_,h=>by rw[gI] at h ⊢;exact h
 | .sl sz es,u,ho,h=>by
   rw[nsV] at ho;rw[gI] at h ⊢;obtain⟨A,c,e,hl,h1⟩:=h;refine⟨A,c,e,hl,λhp=>?_⟩;obtain⟨b,off,ha,hb,hr⟩:=h1 hp;obtain⟨g1,g2⟩:=bK.yI hq sz es b off ho hr;exact⟨b,off,ha,⟨hb,g2 (by intro e;rw[e] at hp;simp at hp)⟩,g1⟩
theorem bK.yI(hq:SlB w q)(sz:Nat):∀(es:List (List D)) (b off:Nat),uN es->bK w F sz es b off->bK w (λk=>F k/\k≠q) sz es b off/\(es≠[]->b≠q)
 | [],_,_,_,_=>⟨by rw[bK];trivial,λh=>absurd rfl h⟩
 | e::es,b,off,ho,h=>by
   rw[uN] at ho;rw[bK] at h ⊢;obtain⟨⟨cs,hc,hr⟩,hl⟩:=h;exact⟨⟨⟨cs,hc,au.yI hq e cs ho.1.2 hr⟩,(bK.yI hq sz es b (off+sz) ho.2 hl).1⟩,λ_=>ho.1.1.ne hq hc hr⟩
theorem au.yI(hq:SlB w q):∀(ds:List D) (cs:List Value),zG ds->au w F ds cs->au w (λk=>F k/\k≠q) ds cs
 | [],_,_,h=>by rw[au] at h ⊢;exact h
 | d::ds,cs,ho,h=>by
   rw[zG] at ho;rw[au] at h ⊢;obtain⟨v,r,e,h1,h2⟩:=h;exact⟨v,r,e,gI.yI hq d v ho.1 h1,au.yI hq ds r ho.2 h2⟩
end
theorem bM.yI(hq:SlB w q){sz:Nat}(ho:uN es)(h:bM w F sz es A n):bM w (λk=>F k/\k≠q) sz es A n:=by
 refine⟨h.1,λhp=>?_⟩;obtain⟨b,off,hA,hb,hr⟩:=h.2 hp;obtain⟨g1,g2⟩:=bK.yI hq sz es b off ho hr;exact⟨b,off,hA,⟨hb,g2 (by intro e;have:=h.1;rw[e] at this;simp at this;omega)⟩,g1⟩
theorem aaY:uN es↔∀e∈es,aeO e/\zG e:=by
 induction es with
 | nil=>rw[uN];simp
 | cons e es ih=>rw[uN,ih];simp
theorem LP{a b:List D}:zG (a++b)↔zG a/\zG b:=by
 induction a with
 | nil=>rw[d6,zG];simp
 | cons d a ih=>rw[m7,zG,zG,ih,and_assoc]
mutual
theorem al5:∀c:aT,zG (wC c)
 | .mk k ns nl s ex ar=>by
   rw[Es];simp only[zG,nsV,true_and,and_true];exact⟨Zg ex,Zg ar⟩
theorem Zg:∀l:List aT,uN (l.map wC)
 | []=>by rw[List.map_nil,uN];trivial
 | c::l=>by
   rw[Jm,uN];exact⟨⟨by cases c;rw[Es];exact⟨_,_,rfl,λ_ _ _ h=>by cases h⟩,al5 c⟩,Zg l⟩
end
theorem al6(p:aJ):aeO (aZ p):=by
 cases p;rw[Et];exact⟨_,_,rfl,λ_ _ _ h=>by cases h⟩
mutual
theorem al7:∀p:aJ,zG (aZ p)
 | .mk k mn mx el c pr args=>by
   rw[Et,LP,LP];simp only[zG,nsV,true_and,and_true];exact⟨al5 c,Zh args⟩
theorem Zh:∀l:List aJ,uN (l.map aZ)
 | []=>by rw[List.map_nil,uN];trivial
 | p::l=>by
   rw[Jm,uN];exact⟨⟨al6 p,al7 p⟩,Zh l⟩
end
theorem al8(l:List Nat):uN (l.map Dl):=by
 rw[aaY];intro e he;obtain⟨x,_,rfl⟩:=List.mem_map.1 he;exact⟨⟨_,_,rfl,λ_ _ _ h=>by cases h⟩,by simp[Dl,zG,nsV]⟩
theorem aw7(l:List aU):uN (l.map Jb):=by
 rw[aaY];intro e he;obtain⟨x,_,rfl⟩:=List.mem_map.1 he;unfold Jb;refine⟨?_,?_⟩
 ·obtain⟨v,r,h1,h2⟩:=al6 x.leaf;exact⟨v,_,by rw[h1,m7],h2⟩
 rw[LP];simp only[zG,nsV,true_and,and_true];exact⟨al7 _,al8 _⟩
theorem mO.yI{B bm:Nat}{m:eQ}(h:mO w B bm m)(hq:w.heap[q]?=Zc #[(A,n,c)] 58){eA:Option Addr}{en ec:Nat}(h0:w.cell? bm=(eA,en,ec))(he:bM w (λk=>k<B/\k≠q) 1 (m.elems.map nU) eA en):Gs w (λk=>k<B/\k≠q) bm m:=by
 obtain⟨eA',en',ec',pA,pn,pc,fA,fn,fc,mb,aA,an,ac,h1,h2,h3,h4,h5,h6,h7,h8,h9⟩:=h;have hs:=al4 hq;have e0:=(uK h1).1;rw[h0] at e0;simp only[l5,i6] at e0;obtain⟨rfl,rfl,rfl⟩:=e0;exact⟨_,_,_,pA,pn,pc,fA,fn,fc,mb,aA,an,ac,h1,⟨h2,λe=>by rw[e,hq] at h1;simp at h1⟩,⟨h3,λe=>by have h7':w.heap[mb]?=_:=h7;rw[e,hq] at h7';simp[Ag] at h7'⟩,he,bM.yI hs (aw7 _) h5,bM.yI hs (al8 _) h6,h7,bM.yI hs (Zh _) h8,h9⟩
theorem ao4(m:eQ)(F:Nat->Prop)(bm g1 g2 s:Nat)(w0:World)(X:Nat->Prop)(hM:Gs w0 F bm m)(fQ:mQ m)(hB:∀q,F q->q<w0.heap.size)(h1:w0.heap[g1]?=Zc #[(bm,0)] 93)(h2:w0.heap[g2]?=Zc #[s] 3)(hX:∀q,X q->¬F q/\g1≠q/\g2≠q)(hs:YR m s):
 ∃rl:List SP,rl.map (·.1)=gK m s/\(∀x∈rl,au w0 F (aZ x.1.leaf) x.2.cells)/\yF prog 145 #[(g1,0),(g2,0)] spE X (· =rl) (· <+:rl) w0:=by
 obtain⟨rl,h3,h4,h5⟩:∃rl:List SC,rl.map (·.1)=gK m s/\(∀x∈rl,au w0 F (aZ x.1.leaf) x.2)/\yF prog 145 #[(g1,0),(g2,0)] EK X (· =rl) (· <+:rl) w0:=by
  by_cases dW:m.all=[]
  ·exact aav m F bm g1 g2 s w0 X hM fQ hB h1 h2 hX dW (hs.1 dW)
  exact aax m F bm g1 g2 s w0 X hM fQ hB h1 h2 hX dW hs.2
 have key:∀l:List SC,(∀x∈l,au w0 F (aZ x.1.leaf) x.2)->∃l':List SP,l'.map UO=l:=by
  intro l
  induction l with
  | nil=>exact λ_=>⟨[],rfl⟩
  | cons x l ih=>
    intro h;obtain⟨l',rfl⟩:=ih λy hy=>h y (by simp[hy]);obtain⟨k,mn,mx,el,ck,ns,nl,sp,A1,n1,c1,A2,n2,c2,pr,A,n,c,e,-⟩:=aW (h x zP);exact⟨(x.1,⟨k,mn,mx,el,ck,ns,nl,sp,A1,n1,c1,A2,n2,c2,pr,A,n,c⟩)::l',by rw[Jm];congr 1;exact Prod.ext rfl e.symm⟩
 obtain⟨rl',rfl⟩:=key rl h4;refine⟨rl',by rw[<-h3,List.map_map];rfl,λx hx=>h4 (UO x) (List.mem_map_of_mem hx),?_⟩;exact yF.map UO h5
