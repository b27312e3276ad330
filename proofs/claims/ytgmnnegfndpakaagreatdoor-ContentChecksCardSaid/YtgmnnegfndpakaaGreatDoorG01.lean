import Derived.Test.YtgmnnegfndpakaaGreatDoorRep
import Derived.WalkSpells
import Derived.WalkLawsBesides
import Derived.BigGuardPart
import Derived.Deep.QuietTactic
import Derived.BigQuiet
import Derived.StillTailTactics
set_option maxHeartbeats 20000000
set_option maxRecDepth 100000
namespace Go.Proofs.YtgmnnegfndpakaaGreatDoor
open Go.RowKit
mutual
def vk:aT->ByteArray->ByteArray->Bool
 | .mk k ns nl s ex ar,a,b=>!inH ex a b&&(if k=1 then eqS ns a&&eqS nl b else if k=2 then eqS s a else if k=3 then true else Cm ar a b)
def inH:List aT->ByteArray->ByteArray->Bool
 | [],_,_=>false
 | c::_,a,b=>vk c a b
def Cm:List aT->ByteArray->ByteArray->Bool
 | [],_,_=>false
 | c::l,a,b=>vk c a b||Cm l a b
end
theorem Nv{l:List aT}{i:Nat}{ch:aT}{a b:ByteArray}(h:l[i]?=some ch):Cm (l.drop i) a b=(vk ch a b||Cm (l.drop (i+1)) a b):=by
 obtain⟨hi,rfl⟩:=List.getElem?_eq_some_iff.1 h;rw[nZ hi,Cm]
theorem arS(a b:ByteArray)(c:aT):∀(cs:List Value) (w:World) (F:Nat->Prop),dA w F c cs->
 Rt 157 #[.agg cs.toArray,.agg #[.string a,.string b]] w (.bool (vk c a b)):=by
 induction c using aT.ind with
 | _ k ns nl s ex ar Jv iha=>
   intro cs w F hr0;obtain⟨A,n,c,A',n',c',rfl,hl,zS,h1,h2⟩:=hr0.here.form;have HE:=zH Jv;have HA:=zH iha;clear Jv iha hr0;have heq:=nO;have hes:=Yl;obtain⟨vh,hvh⟩:=zF (inH ex a b);have HR:Hid (vk (.mk k ns nl s ex ar) a b=(!vh&&(if k=1 then eqS ns a&&eqS nl b else if k=2 then eqS s a else if k=3 then true else Cm ar a b))):=(by rw[vk,hvh];exact rfl);have HV:=zH hvh;clear hvh;obtain⟨w1,bI,ai,ag,bY,aH⟩:=ed w (.cells #[.int .i64 k,.string ns,.string nl,.string s,.slice A n c,.slice A' n' c'] 26) (.cells #[.string a,.string b] 23);have H1:=zH ai;have H2:=zH ag;clear ai ag;go_enter Tryz.func157,Tryz.ntmps157;go_wp2_with fail;have HW:=zH bI;clear bI
   cases ex with
   | nil=>
     obtain⟨q0,q1,q2,q3,q4,q5⟩:=gG H1.out;obtain⟨n0,n1⟩:=dw H2.out;have hv:vh=false:=(by rw[<-HV.out];rfl);subst hv;obtain rfl:n=0:=h1.len
     go_quiet (fail)
     rcases apg k with hk | ⟨hk,dm⟩ | ⟨hk,dm,bW⟩ | ⟨hk,dm,bW⟩
     ·go_wp2_with fail
      go_ret;exact⟨aK (by rw[HR.out,if_pos (by simpa using hk)];rfl),aH.drewN _⟩
     ·go_wp2_with fail
      go_ret;exact⟨aK (by rw[HR.out,if_neg (by simpa using hk),if_pos (by simpa using dm)];rfl),aH.drewN _⟩
     ·go_wp2_with fail
      go_ret;exact⟨aK (by rw[HR.out,if_neg (by simpa using hk),if_neg (by simpa using dm),if_pos (by simpa using bW)];rfl),aH.drewN _⟩
     ·go_wp2_with fail
      have Ff:Hid (vk (.mk k ns nl s [] ar) a b=Cm ar a b):=(by rw[HR.out,if_neg (by simpa using hk),if_neg (by simpa using dm),if_neg (by simpa using bW)];exact rfl);clear q0 q1 q2 q3 q4 q5 n0 n1
      go_loopw [5] (λsi wr=>∃i:Nat,i<=n'/\si= .int .i64 i/\Hid (Cm ar a b=Cm (ar.drop i) a b)/\Bw w1 wr)
       (λsi _=>n' - (intOf si).toNat)
      case atStart=>exact⟨0,zO,rfl,zH rfl,(Below.refl _ _).drewN _⟩
      case round=>
       obtain⟨i,hi,rfl,HL,dU⟩:=hrel;have Nw:Bw w wr:=aH.seq dU;obtain⟨q0,q1,q2,q3,q4,q5⟩:=gG ((dU.block _ (by omega)).trans H1.out);obtain⟨n0,n1⟩:=dw ((dU.block _ (by omega)).trans H2.out);clear q0 q1 q2 q3 q4;by_cases aN:i<n'
       ·obtain⟨b',off,ch,v0,v1,v2,v3,v4,v5,HX,kP,p0,p1,p2,p3,p4,p5,dO⟩:=h2.round Nw aN c'
        have hd:decide (i<n')=true:=(by simp;omega);go_wp2_with fail
        go_still_tail 6,zK
        change wpList _ _ _ _ _ wr.drew;go_wp2_with fail;refine (HA.out ch (qN HX) _ _ _ kP.drew).mono ?_;rintro e3 w3 ⟨rfl,az⟩
        cases hv:vk ch a b with
        | true=>
          have vw:=zH hv;clear hv;go_wp2_with fail;go_ret;exact⟨aK (by rw[Ff.out,HL.out,Nv HX.out,vw.out];rfl),Nw.trans ((Below.xY az).mono Nw.size)⟩
        | false=>
          have vw:=zH hv;clear hv;go_wp2_with fail;go_roundw
          case rel=>exact⟨i+1,zO,by go_num,zH (by rw[HL.out,Nv HX.out,vw.out];rfl),dU.trans ((Below.xY az).mono dU.size)⟩
          case measure=>simp[intOf];omega
       ·have hd:decide (i<n')=false:=by simp;omega
        go_wp2_with fail;go_ret;exact⟨aK (by rw[Ff.out,HL.out,z14 (by have:=h2.len;omega)];rfl),Nw⟩
   | cons e ex=>
     obtain⟨q0,q1,q2,q3,q4,q5⟩:=gG H1.out;obtain⟨n0,n1⟩:=dw H2.out;obtain⟨b',off,v0,v1,v2,v3,v4,v5,kP,p0,p1,p2,p3,p4,p5,kD,dO⟩:=h1.first aH c
     go_still_tail 10,zK
     change wpList _ _ _ _ _ w1.drew;go_wp2_with fail;refine (HE.out e List.mem_cons_self _ _ _ kP.drew).mono ?_;rintro e2 w2 ⟨rfl,ag⟩;have hv:vh=vk e a b:=(by rw[<-HV.out];rfl);have mX:=Below.xY ag;have aHP:=mX.size;have abL:=aH.seq mX;clear q0 q1 q2 q3 q4 q5 n0 n1 p0 p1 p2 p3 p4 p5 dO ag;obtain⟨q0,q1,q2,q3,q4,q5⟩:=gG ((mX.block _ zO).trans H1.out);obtain⟨n0,n1⟩:=dw ((mX.block _ bY).trans H2.out)
     cases hve:vk e a b with
     | true=>
       rw[hve] at hv;subst hv;clear hve;go_wp2_with fail;go_ret;exact⟨aK (by rw[HR.out];rfl),abL⟩
     | false=>
       rw[hve] at hv;subst hv;clear hve
       rcases apg k with hk | ⟨hk,dm⟩ | ⟨hk,dm,bW⟩ | ⟨hk,dm,bW⟩
       ·go_wp2_with fail
        go_ret;exact⟨aK (by rw[HR.out,if_pos (by simpa using hk)];rfl),abL⟩
       ·go_wp2_with fail
        go_ret;exact⟨aK (by rw[HR.out,if_neg (by simpa using hk),if_pos (by simpa using dm)];rfl),abL⟩
       ·go_wp2_with fail
        go_ret;exact⟨aK (by rw[HR.out,if_neg (by simpa using hk),if_neg (by simpa using dm),if_pos (by simpa using bW)];rfl),abL⟩
       ·go_wp2_with fail
        have Ff:Hid (vk (.mk k ns nl s (e::ex) ar) a b=Cm ar a b):=(by rw[HR.out,if_neg (by simpa using hk),if_neg (by simpa using dm),if_neg (by simpa using bW)];exact rfl);clear q0 q1 q2 q3 q4 q5 n0 n1
        go_loopw [5] (λsi wr=>∃i:Nat,i<=n'/\si= .int .i64 i/\Hid (Cm ar a b=Cm (ar.drop i) a b)/\Bw w2 wr)
         (λsi _=>n' - (intOf si).toNat)
        case atStart=>exact⟨0,zO,rfl,zH rfl,Below.refl _ _⟩
        case round=>
         obtain⟨i,hi,rfl,HL,dU⟩:=hrel;have Nw:Bw w wr:=abL.seq dU;obtain⟨q0,q1,q2,q3,q4,q5⟩:=gG ((dU.block _ (by omega)).trans ((mX.block _ zO).trans H1.out));obtain⟨n0,n1⟩:=dw ((dU.block _ (by omega)).trans ((mX.block _ bY).trans H2.out));clear q0 q1 q2 q3 q4;by_cases aN:i<n'
         ·obtain⟨b',off,ch,v0,v1,v2,v3,v4,v5,HX,kP,p0,p1,p2,p3,p4,p5,dO⟩:=h2.round Nw aN c'
          have hd:decide (i<n')=true:=(by simp;omega);go_wp2_with fail
          go_still_tail 6,zK
          change wpList _ _ _ _ _ wr.drew;go_wp2_with fail;refine (HA.out ch (qN HX) _ _ _ kP.drew).mono ?_;rintro e3 w3 ⟨rfl,az⟩
          cases hv:vk ch a b with
          | true=>
            have vw:=zH hv;clear hv;go_wp2_with fail;go_ret;exact⟨aK (by rw[Ff.out,HL.out,Nv HX.out,vw.out];rfl),Nw.trans ((Below.xY az).mono Nw.size)⟩
          | false=>
            have vw:=zH hv;clear hv;go_wp2_with fail;go_roundw
            case rel=>exact⟨i+1,zO,by go_num,zH (by rw[HL.out,Nv HX.out,vw.out];rfl),dU.trans ((Below.xY az).mono dU.size)⟩
            case measure=>simp[intOf];omega
         ·have hd:decide (i<n')=false:=by simp;omega
          go_wp2_with fail;go_ret;exact⟨aK (by rw[Ff.out,HL.out,z14 (by have:=h2.len;omega)];rfl),Nw⟩
def jJ(a b:ByteArray):Bool:=decide (1<=b.size)&&decide (b.size<=200)&&decide (a.size<=200)
def uI(k:Int)(ns nl s:ByteArray)(n n':Nat):Bool:=
 if k=1 then jJ ns nl&&s.toList.isEmpty&&decide (n=0)&&decide (n'=0)
 else if k=2 then (eqS ns ⟨#[]⟩&&eqS nl ⟨#[]⟩)&&decide (s.size<=200)&&decide (n<=1)&&decide (n'=0)
 else if k=3 then (eqS ns ⟨#[]⟩&&eqS nl ⟨#[]⟩)&&s.toList.isEmpty&&decide (n<=1)&&decide (n'=0)
 else if k=4 then (eqS ns ⟨#[]⟩&&eqS nl ⟨#[]⟩)&&s.toList.isEmpty&&decide (n=0)&&decide (1<=n')
 else false
mutual
def rU:aT->Bool
 | .mk k ns nl s ex ar=>lI ex&&lI ar&&uI k ns nl s ex.length ar.length
def lI:List aT->Bool
 | []=>true
 | c::l=>rU c&&lI l
end
theorem Hq{l:List aT}{i:Nat}{ch:aT}(h:l[i]?=some ch):lI (l.drop i)=(rU ch&&lI (l.drop (i+1))):=by
 obtain⟨hi,rfl⟩:=List.getElem?_eq_some_iff.1 h;rw[nZ hi,lI]
theorem apj(k:Int):(k==1)=true\/((k==1)=false/\(k==2)=true)\/((k==1)=false/\(k==2)=false/\(k==3)=true)\/((k==1)=false/\(k==2)=false/\(k==3)=false/\(k==4)=true)\/((k==1)=false/\(k==2)=false/\(k==3)=false/\(k==4)=false):=by
 cases (k==1)<;>cases (k==2)<;>cases (k==3)<;>cases (k==4)<;>simp
theorem Zl(a b:ByteArray)(w:World):
 Rt 156 #[.agg #[.string a,.string b]] w (.bool (jJ a b)):=by
 go_enter Tryz.func156,Tryz.ntmps156;go_wp2
 all_goals
  go_ret;exact⟨aK (by unfold jJ;rw[Bool.eq_iff_iff];simp<;>omega),(Below.refl _ _).alloc (zR _) _⟩
theorem ag8(c:aT):∀(cs:List Value) (w:World) (F:Nat->Prop),dA w F c cs->
 Rt 140 #[.agg cs.toArray] w (.bool (rU c)):=by
 induction c using aT.ind with
 | _ k ns nl s ex ar Jv iha=>
   intro cs w F hr0;obtain⟨A,n,c,A',n',c',rfl,hl,zS,h1,h2⟩:=hr0.here.form;have O0:=zH Jv;have HA0:=zH iha;clear Jv iha hr0;have heq:=nO;have HR:Hid (rU (.mk k ns nl s ex ar)=(lI ex&&lI ar&&uI k ns nl s n n')):=(by rw[rU,h1.len,h2.len];exact rfl);obtain⟨w1,bI,hblk,bY,ai⟩:=af w (.cells #[.int .i64 k,.string ns,.string nl,.string s,.slice A n c,.slice A' n' c'] 26);have HB:=zH hblk;clear hblk;go_enter Tryz.func140,Tryz.ntmps140;go_wp2_with fail;have HW:=zH bI;clear bI
   go_loopw [3] (λsi wr=>∃i:Nat,i<=n/\si= .int .i64 i/\Hid (lI ex=lI (ex.drop i))/\Bw w1 wr)
    (λsi _=>n - (intOf si).toNat)
   case atStart=>exact⟨0,zO,rfl,zH rfl,Below.refl _ _⟩
   case round=>
    obtain⟨i,hi,rfl,HL,aH⟩:=hrel;obtain⟨q0,q1,q2,q3,q4,q5⟩:=gG ((aH.block _ bY).trans HB.out);by_cases aN:i<n
    ·obtain⟨b,off,ch,v0,v1,v2,v3,v4,v5,HX,kP,p0,p1,p2,p3,p4,p5,dO⟩:=h1.round (ai.seq aH) aN c
     have hd:decide (i<n)=true:=(by simp;omega);go_wp2_with fail;refine (O0.out ch (qN HX) _ _ _ kP).mono ?_;rintro e3 w3 ⟨rfl,az⟩
     cases hv:rU ch with
     | true=>
       have vw:=zH hv;clear hv;go_wp2_with fail;go_roundw
       case rel=>exact⟨i+1,zO,by go_num,zH (by rw[HL.out,Hq HX.out,vw.out];rfl),aH.trans (az.mono aH.size)⟩
       case measure=>simp[intOf];omega
     | false=>
       have vw:=zH hv;clear hv;go_wp2_with fail;go_ret;exact⟨aK (by rw[HR.out,HL.out,Hq HX.out,vw.out];simp),(ai.seq aH).trans (az.mono (ai.seq aH).size)⟩
    ·have hd:decide (i<n)=false:=by simp;omega
     have HE:Hid (lI ex=true):=(by have h:=HL.out;rw[z14 (by have:=h1.len;omega)] at h;exact h);go_wp2_with fail
     go_loopw [4] (λsi wr=>∃i:Nat,i<=n'/\si= .int .i64 i/\Hid (lI ar=lI (ar.drop i))/\Bw w1 wr)
      (λsi _=>n' - (intOf si).toNat)
     case atStart=>exact⟨0,zO,rfl,zH rfl,aH⟩
     case round=>
      obtain⟨i,hi,rfl,HL,aH⟩:=hrel;obtain⟨q0,q1,q2,q3,q4,q5⟩:=gG ((aH.block _ bY).trans HB.out);by_cases aN:i<n'
      ·obtain⟨b,off,ch,v0,v1,v2,v3,v4,v5,HX,kP,p0,p1,p2,p3,p4,p5,dO⟩:=h2.round (ai.seq aH) aN c'
       have hd:decide (i<n')=true:=(by simp;omega);go_wp2_with fail;refine (HA0.out ch (qN HX) _ _ _ kP).mono ?_;rintro e3 w3 ⟨rfl,az⟩
       cases hv:rU ch with
       | true=>
         have vw:=zH hv;clear hv;go_wp2_with fail;go_roundw
         case rel=>exact⟨i+1,zO,by go_num,zH (by rw[HL.out,Hq HX.out,vw.out];rfl),aH.trans (az.mono aH.size)⟩
         case measure=>simp[intOf];omega
       | false=>
         have vw:=zH hv;clear hv;go_wp2_with fail;go_ret;exact⟨aK (by rw[HR.out,HL.out,Hq HX.out,vw.out];simp),(ai.seq aH).trans (az.mono (ai.seq aH).size)⟩
      ·have hd:decide (i<n')=false:=by simp;omega
       have Ud:Hid (lI ar=true):=by have h:=HL.out;rw[z14 (by have:=h2.len;omega)] at h;exact h
       rcases apj k with hk | ⟨hk,dm⟩ | ⟨hk,dm,bW⟩ | ⟨hk,dm,bW,jl⟩ | ⟨hk,dm,bW,jl⟩
       ·have HN:Hid (uI k ns nl s n n'=(jJ ns nl&&s.toList.isEmpty&&decide (n=0)&&decide (n'=0))):=by unfold uI;rw[if_pos (by simpa using hk)];exact rfl
        go_wp2_with fail;refine (Zl _ _ _).mono ?_;rintro e3 w3 ⟨rfl,az⟩;have dY:=(ai.seq aH).seq az;obtain⟨q0,q1,q2,q3,q4,q5⟩:=gG (((aH.trans (az.mono aH.size)).block _ bY).trans HB.out)
        cases hv:jJ ns nl with
        | false=>
          have vw:=zH hv;clear hv;go_wp2_with fail;go_ret;exact⟨aK (by rw[HR.out,HE.out,Ud.out,HN.out,vw.out];rfl),dY⟩
        | true=>
          have vw:=zH hv;clear hv;go_wp2_with fail
          all_goals
           go_ret;exact⟨aK (by rw[HR.out,HE.out,Ud.out,HN.out,vw.out,Bool.eq_iff_iff];simp[*]<;>first | omega | (intros;omega) | (intros;simp_all)),dY⟩
       ·have HN:Hid (uI k ns nl s n n'=((eqS ns ⟨#[]⟩&&eqS nl ⟨#[]⟩)&&decide (s.size<=200)&&decide (n<=1)&&decide (n'=0))):=by unfold uI;rw[if_neg (by simpa using hk),if_pos (by simpa using dm)];exact rfl
        go_wp2_with fail
        all_goals
         go_ret;exact⟨aK (by rw[HR.out,HE.out,Ud.out,HN.out,Bool.eq_iff_iff];simp[*]<;>first | omega | (intros;omega) | (intros;simp_all)),ai.seq aH⟩
       ·have HN:Hid (uI k ns nl s n n'=((eqS ns ⟨#[]⟩&&eqS nl ⟨#[]⟩)&&s.toList.isEmpty&&decide (n<=1)&&decide (n'=0))):=by unfold uI;rw[if_neg (by simpa using hk),if_neg (by simpa using dm),if_pos (by simpa using bW)];exact rfl
        go_wp2_with fail
        all_goals
         go_ret;exact⟨aK (by rw[HR.out,HE.out,Ud.out,HN.out,Bool.eq_iff_iff];simp[*]<;>first | omega | (intros;omega) | (intros;simp_all)),ai.seq aH⟩
       ·have HN:Hid (uI k ns nl s n n'=((eqS ns ⟨#[]⟩&&eqS nl ⟨#[]⟩)&&s.toList.isEmpty&&decide (n=0)&&decide (1<=n'))):=by unfold uI;rw[if_neg (by simpa using hk),if_neg (by simpa using dm),if_neg (by simpa using bW),if_pos (by simpa using jl)];exact rfl
        go_wp2_with fail
        all_goals
         go_ret;exact⟨aK (by rw[HR.out,HE.out,Ud.out,HN.out,Bool.eq_iff_iff];simp[*]<;>first | omega | (intros;omega) | (intros;simp_all)),ai.seq aH⟩
       ·have HN:Hid (uI k ns nl s n n'=false):=by unfold uI;rw[if_neg (by simpa using hk),if_neg (by simpa using dm),if_neg (by simpa using bW),if_neg (by simpa using jl)];exact rfl
        go_wp2_with fail;go_ret;exact⟨aK (by rw[HR.out,HN.out];simp),ai.seq aH⟩
mutual
def Wq:Nat->aT->Nat
 | 0,_=>100000
 | r+1,.mk _ ns nl s ex ar=>if 1000<nl.size\/1000<ns.size\/1000<s.size then 100000 else CG r (CG r 1 ex) ar
def CG:Nat->Nat->List aT->Nat
 | _,n,[]=>n
 | r,n,c::l=>if n<100000 then CG r (n+Wq r c) l else n
end
mutual
theorem amn:∀(c:aT) (r:Nat),Wq r c<=100000*(r+1)
 | .mk k ns nl s ex ar,0=>by simp[Wq]
 | .mk k ns nl s ex ar,r+1=>by
   rw[Wq];have h1:=Ve ex r 1;have h2:=Ve ar r (CG r 1 ex)
   split<;>omega
theorem Ve:∀(l:List aT) (r n:Nat),CG r n l<=max n (100000+100000*(r+1))
 | [],r,n=>by rw[CG];omega
 | c::l,r,n=>by
   rw[CG]
   split
   ·have h1:=amn c r
    have h2:=Ve l r (n+Wq r c);omega
   ·omega
end
theorem ayH{r nn i:Nat}{l:List aT}{R:Nat}(hn:100000<=nn\/l.length<=i)(h:CG r nn (l.drop i)=R):nn=R:=by
 rcases hn with hn | hn
 ·cases hd:l.drop i with
  | nil=>rw[hd,CG] at h;exact h
  | cons c l'=>rw[hd,CG,if_neg zO] at h;exact h
 ·rw[z14 hn,CG] at h;exact h
mutual
def ni:Nat->aT->Nat
 | 0,_=>100000
 | r+1,.mk _ _ _ _ ex ar=>kW r (kW r 1 ex) ar
def kW:Nat->Nat->List aT->Nat
 | _,n,[]=>n
 | r,n,c::l=>if n<100000 then kW r (n+ni r c) l else n
end
mutual
theorem Qy:∀(c:aT) (r:Nat),ni r c<=100000*(r+1)
 | .mk k ns nl s ex ar,0=>by simp[ni]
 | .mk k ns nl s ex ar,r+1=>by
   rw[ni];have h1:=JB ex r 1;have h2:=JB ar r (kW r 1 ex);omega
theorem JB:∀(l:List aT) (r n:Nat),kW r n l<=max n (100000+100000*(r+1))
 | [],r,n=>by rw[kW];omega
 | c::l,r,n=>by
   rw[kW]
   split
   ·have h1:=Qy c r
    have h2:=JB l r (n+ni r c);omega
   ·omega
end
theorem Uf{r nn i:Nat}{l:List aT}{c:aT}{R:Nat}(hc:l[i]?=some c)(hn:nn<100000)(h:kW r nn (l.drop i)=R):kW r (nn+ni r c) (l.drop (i+1))=R:=by
 obtain⟨hi,hc⟩:=List.getElem?_eq_some_iff.1 hc;rw[nZ hi,hc,kW,if_pos hn] at h;exact h
theorem Ws{r nn i:Nat}{l:List aT}{R:Nat}(hn:100000<=nn\/l.length<=i)(h:kW r nn (l.drop i)=R):nn=R:=by
 rcases hn with hn | hn
 ·cases hd:l.drop i with
  | nil=>rw[hd,kW] at h;exact h
  | cons c l'=>rw[hd,kW,if_neg zO] at h;exact h
 ·rw[z14 hn,kW] at h;exact h
theorem count_any:∀(r:Nat) (c:aT) (cs:List Value) (w:World) (F:Nat->Prop),dA w F c cs->r<1000->
 Rt 139 #[.agg cs.toArray,.int .i64 r] w (.int .i64 (ni r c)):=by
 intro r
 induction r with
 | zero=>
   rintro⟨k,ns,nl,s,ex,ar⟩ cs w F hr hr0;obtain⟨A,n,c,A',n',c',rfl,hl,zS,h1,h2⟩:=hr.here.form;go_enter Tryz.func139,Tryz.ntmps139;go_wp2;go_ret;exact⟨rfl,(Below.refl _ _).alloc (zR _) _⟩
 | succ r ih=>
   rintro⟨k,ns,nl,s,ex,ar⟩ cs w F hr hr0;obtain⟨A,n,c,A',n',c',rfl,hl,zS,h1,h2⟩:=hr.here.form;have rZ:=zH ih;clear ih hr;obtain⟨w1,bI,hblk,bY,ai⟩:=af w (.cells #[.int .i64 k,.string ns,.string nl,.string s,.slice A n c,.slice A' n' c'] 26);obtain⟨q0,q1,q2,q3,q4,q5⟩:=gG hblk;have HB:=zH hblk;clear hblk;have LV:decide ((r:Int)+1<1)=false:=(by simp;omega);rw[show ((r+1:Nat):Int)=(r:Int)+1 from rfl];go_enter Tryz.func139,Tryz.ntmps139;go_wp2_with fail
   ·obtain⟨R1,hR1⟩:=zF (kW r 1 ex)
    obtain⟨R,hR⟩:=zF (kW r R1 ar);have HR:Hid (ni (r+1) (aT.mk k ns nl s ex ar)=R):=(by rw[ni];rw[hR1,hR];exact rfl);have hRb:R1<=200000000:=(by have:=JB ex r 1;omega);have O1:=zH hR1;have Ff:=zH hR;have HW:=zH bI;clear hR1 hR bI q0 q1 q2 q3 q4 q5
    go_loopw [5,6] (λsn si wr=>∃i nn:Nat,i<=n/\si= .int .i64 i/\sn= .int .i64 nn/\nn<=200000000/\Hid (kW r nn (ex.drop i)=R1)/\Bw w1 wr)
     (λ_ si _=>n - (intOf si).toNat)
    case atStart=>exact⟨0,1,zO,rfl,rfl,zO,O1,Below.refl _ _⟩
    case round=>
     obtain⟨i,nn,hi,rfl,rfl,gX,HL,aH⟩:=hrel;obtain⟨q0,q1,q2,q3,q4,q5⟩:=gG ((aH.block _ bY).trans HB.out);clear q0 q1 q2 q3;by_cases Jy:i<n/\nn<100000
     ·obtain⟨aN,JC⟩:=Jy
      obtain⟨b,off,ch,v0,v1,v2,v3,v4,v5,HX,kP,p0,p1,p2,p3,p4,p5,dO⟩:=h1.round (ai.seq aH) aN c;have hd:decide ((nn:Int)<100000)=true:=(by simp;omega);have Zo:=Qy ch r;go_wp2_with fail;refine (rZ.out _ _ _ _ kP zO).mono ?_;rintro e w2 ⟨rfl,ag⟩;go_wp2_with fail;go_roundw
      case rel=>exact⟨i+1,nn+ni r _,zO,by go_num,by go_num,zO,Uf HX.out JC HL.out,aH.trans (ag.mono aH.size)⟩
      case measure=>simp[intOf];omega
     ·have HE:Hid (nn=R1):=Ws (by have:=h1.len;omega) HL.out
      rcases (show (decide (i<n)=false)\/(i<n/\decide ((nn:Int)<100000)=false) by simp;omega) with hd | ⟨aN,hd⟩
      all_goals
       clear Jy;go_wp2_with fail
       go_loopw [5,7] (λsn si wr=>∃i nn:Nat,i<=n'/\si= .int .i64 i/\sn= .int .i64 nn/\nn<=200000000/\Hid (kW r nn (ar.drop i)=R)/\Bw w1 wr)
        (λ_ si _=>n' - (intOf si).toNat)
       case atStart=>exact⟨0,nn,zO,rfl,rfl,zO,by rw[HE.out];exact Ff,aH⟩
       case round=>
        clear hd q4 q5 HE HL aH hi;obtain⟨i,nn,hi,rfl,rfl,aHQ,HL,aH⟩:=hrel;obtain⟨q0,q1,q2,q3,q4,q5⟩:=gG ((aH.block _ bY).trans HB.out);clear q0 q1 q2 q3;by_cases Jy:i<n'/\nn<100000
        ·obtain⟨aN,JC⟩:=Jy
         obtain⟨b,off,ch,v0,v1,v2,v3,v4,v5,HX,kP,p0,p1,p2,p3,p4,p5,dO⟩:=h2.round (ai.seq aH) aN c';have hd:decide ((nn:Int)<100000)=true:=(by simp;omega);have Zo:=Qy ch r;go_wp2_with fail;refine (rZ.out _ _ _ _ kP zO).mono ?_;rintro e w2 ⟨rfl,ag⟩;go_wp2_with fail;go_roundw
         case rel=>exact⟨i+1,nn+ni r _,zO,by go_num,by go_num,zO,Uf HX.out JC HL.out,aH.trans (ag.mono aH.size)⟩
         case measure=>simp[intOf];omega
        ·have HE:Hid (nn=R):=Ws (by have:=h2.len;omega) HL.out
         rcases (show (decide (i<n')=false)\/(i<n'/\decide ((nn:Int)<100000)=false) by simp;omega) with hd | ⟨aN,hd⟩
         all_goals
          clear Jy;go_wp2_with fail;go_ret;exact⟨ard (HE.out.trans HR.out.symm),ai.seq aH⟩
end Go.Proofs.YtgmnnegfndpakaaGreatDoor
