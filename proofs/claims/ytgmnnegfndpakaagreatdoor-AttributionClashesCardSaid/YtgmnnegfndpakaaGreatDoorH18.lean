import Derived.Test.YtgmnnegfndpakaaGreatDoorH15
import Derived.ProofKit
import Derived.OpenShut
import Derived.Deep.DeepHandedRow
import Derived.SizedLaws
import Derived.Below
import Derived.ChangeSame
import Derived.WideShapes
set_option maxHeartbeats 20000000
set_option maxRecDepth 100000
namespace Go.Proofs.YtgmnnegfndpakaaGreatDoor
open Go.RowKit
section
open Go.ChangeShapes Go.WideShapes Go.ChangeAt
theorem auP:Tryz.prog.cellsOf 26=6:=by kernel_rfl
theorem auQ:Tryz.prog.cellsOf 23=2:=by kernel_rfl
theorem auS:Tryz.prog.cellsOf 29=12:=by kernel_rfl
theorem auW:Tryz.prog.cellsOf 24=1:=by kernel_rfl
theorem auX:Tryz.prog.cellsOf 27=1:=by kernel_rfl
theorem auY:Tryz.prog.cellsOf 37=1:=by kernel_rfl
theorem aAk:Tryz.prog.cellsOf 9=1:=by kernel_rfl
theorem aAl:Tryz.prog.cellsOf 3=1:=by kernel_rfl
theorem auZ:Tryz.prog.bytesOf 26=104:=by kernel_rfl
theorem au3:Tryz.prog.bytesOf 23=32:=by kernel_rfl
theorem avi:Tryz.prog.bytesOf 29=168:=by kernel_rfl
theorem avm:Tryz.prog.bytesOf 37=24:=by kernel_rfl
theorem laidOut:laidOutB Tryz.prog=true:=by kernel_rfl
theorem aca{α:Type}{Q:Nat->α->Prop}:∀n:Nat,(∀i,i<n->∃a,Q i a)->∃l:List α,l.length=n/\∀i a,l[i]?=some a->Q i a
 | 0,_=>⟨[],rfl,λi a h=>by simp at h⟩
 | n+1,h=>by
   obtain⟨l,h1,h2⟩:=aca n (λi hi=>h i zO);obtain⟨a,ha⟩:=h n zO;refine⟨l++[a],by simp[h1],λi b hb=>?_⟩
   rcases Nat.lt_or_ge i l.length with hi | hi
   ·rw[z20 hi] at hb;exact h2 i b hb
   rw[z21 hi] at hb;have aN:=(z4.1 hb).1;simp at aN;have e:i=n:=(by omega);subst e;rw[h1,Nat.sub_self] at hb;obtain rfl:a=b:=(by simpa using hb);exact ha
structure Lays (P:Program):Prop where
 u26:P.underlying 26=some (.struct #[{ name:="Kind",type:=3,offset:=0,embedded:=false,tag:="",pkgPath:="",byteOffset:=0 },{ name:="Name",type:=23,offset:=1,embedded:=false,tag:="",pkgPath:="",byteOffset:=8 },{ name:="Space",type:=9,offset:=3,embedded:=false,tag:="",pkgPath:="",byteOffset:=40 },{ name:="Except",type:=24,offset:=4,embedded:=false,tag:="",pkgPath:="",byteOffset:=56 },{ name:="Args",type:=24,offset:=5,embedded:=false,tag:="",pkgPath:="",byteOffset:=80 }])
 u23:P.underlying 23=some (.struct #[{ name:="Space",type:=9,offset:=0,embedded:=false,tag:="",pkgPath:="",byteOffset:=0 },{ name:="Local",type:=9,offset:=1,embedded:=false,tag:="",pkgPath:="",byteOffset:=16 }])
 u29:P.underlying 29=some (.struct #[{ name:="Kind",type:=3,offset:=0,embedded:=false,tag:="",pkgPath:="",byteOffset:=0 },{ name:="Min",type:=3,offset:=1,embedded:=false,tag:="",pkgPath:="",byteOffset:=8 },{ name:="Max",type:=3,offset:=2,embedded:=false,tag:="",pkgPath:="",byteOffset:=16 },{ name:="Elem",type:=3,offset:=3,embedded:=false,tag:="",pkgPath:="",byteOffset:=24 },{ name:="Class",type:=26,offset:=4,embedded:=false,tag:="",pkgPath:="",byteOffset:=32 },{ name:="Process",type:=3,offset:=10,embedded:=false,tag:="",pkgPath:="",byteOffset:=136 },{ name:="Args",type:=27,offset:=11,embedded:=false,tag:="",pkgPath:="",byteOffset:=144 }])
 u24:P.underlying 24=some (.slice 26)
 u27:P.underlying 27=some (.slice 29)
 u30:P.underlying 30=some (.slice 37)
 u37:P.underlying 37=some (.slice 23)
 u9:P.underlying 9=some .string
 u3:P.underlying 3=some (.int .i64)
 c26:P.cellsOf 26=6
 c23:P.cellsOf 23=2
 c29:P.cellsOf 29=12
 c24:P.cellsOf 24=1
 c27:P.cellsOf 27=1
 c37:P.cellsOf 37=1
 c9:P.cellsOf 9=1
 c3:P.cellsOf 3=1
 b26:P.bytesOf 26=104
 b23:P.bytesOf 23=32
 b29:P.bytesOf 29=168
 b37:P.bytesOf 37=24
theorem lays:Lays Tryz.prog:=⟨Tryz.underlying26,Tryz.underlying23,Tryz.underlying29,Tryz.underlying24,Tryz.underlying27,Tryz.underlying30,Tryz.underlying37,Tryz.underlying9,Tryz.underlying3,auP,auQ,auS,auW,auX,auY,aAk,aAl,auZ,au3,avi,avm⟩
section Read
variable {P:Program}
variable {H:Type} {enc:TypeId×Value->H} {W:World} {base:Nat} {sp:Nat->Bool} {held:Bool}
theorem str_of_trod(Y:Lays P){n:Nat}{u:Value}{x:DataW H×List MemPlace}(h:DataW.trod enc P W base sp held n 9 [u]=some x):∃s:ByteArray,u= .string s:=by
 obtain⟨s,h1,_⟩:=DataW.trod_string Y.u9 h;exact⟨s,by simpa using h1⟩
theorem abT(Y:Lays P){n:Nat}{cs:List Value}{x:DataW H×List MemPlace}(h:DataW.trod enc P W base sp held n 23 cs=some x):∃a b:ByteArray,cs=[.string a,.string b]:=by
 obtain⟨y0,y1,m,_,hl,h0,h1⟩:=trod_struct2 Y.u23 h;rw[Y.c23] at hl
 match cs,hl with
 | [u,v],_=>
   simp only[Y.c9,List.drop_zero,List.take_succ_cons,List.take_zero,List.drop_succ_cons] at h0 h1;obtain⟨a,rfl⟩:=str_of_trod Y h0;obtain⟨b,rfl⟩:=str_of_trod Y h1;exact⟨a,b,rfl⟩
theorem weightsAll_mem{e:TypeId}{d:DataW H}:∀{l:List (DataW H)},d∈l->∀k∈d.weights P e,k∈DataW.weightsAll P e l
 | c::l,hd,k,hk=>by
   rw[DataW.weightsAll,z12]
   rcases TT.1 hd with rfl | hd
   ·exact .inl hk
   exact .inr (weightsAll_mem hd k hk)
theorem jq.Wv{F:Nat->Prop}{l:List aT}{b off:Nat}(h:∀i c,l[i]?=some c->∃cs,cu W b (off+i*6) cs/\dA W F c cs):jq W F l b off:=by
 rw[IE];refine bK.Wv λi e he=>?_;rw[z17] at he
 cases hc:l[i]? with
 | none=>rw[hc] at he;cases he
 | some c=>
   rw[hc] at he;obtain rfl:wC c=e:=(by simpa using he);obtain⟨cs,h1,h2⟩:=h i c hc;exact⟨cs,h1,(Vf _ _ _ _).1 h2⟩
theorem acA{n:Nat}{e:TypeId}{a:Addr}{y:DataW H×List MemPlace}(hk:0<P.cellsOf e)(h:(W.cells? base (a.add (0*P.cellsOf e)) (P.cellsOf e)).bind (DataW.trod enc P W base sp held n e)=some y):a.spot=none:=by
 obtain⟨cs,h1,h2⟩:=Option.bind_eq_some_iff.1 h;obtain⟨hb,hl,hc⟩:=World.cells?_some h1;have h0:=hc 0 hk
 cases h3:cs[0]? with
 | none=>rw[z22] at h3;omega
 | some v=>
   rw[h3] at h0;simpa[Addr.add] using World.cell?_spot h0
theorem aex{n:Nat}{e:TypeId}{blk off k:Nat}{y:DataW H×List MemPlace}(h:(W.cells? base ((⟨blk,off,none⟩:Addr).add (k*P.cellsOf e)) (P.cellsOf e)).bind (DataW.trod enc P W base sp held n e)=some y):
 ∃cs,cu W blk (off+k*P.cellsOf e) cs/\DataW.trod enc P W base sp held n e cs=some y:=by
 obtain⟨cs,h1,h2⟩:=Option.bind_eq_some_iff.1 h;obtain⟨hb,hl,hc⟩:=World.cells?_some h1;refine⟨cs,λj v hv=>?_,h2⟩;have hj:j<cs.length:=(z4.1 hv).1;have:=hc j zO;rw[hv,ajc,ajc] at this;exact this
theorem agW(Y:Lays P):∀(n:Nat) (cs:List Value) (x:DataW H×List MemPlace),DataW.trod enc P W base sp held n 26 cs=some x->(∀k∈x.1.weights P 26,k<=reachBytes)->∃c,dA W (λ_=>True) c cs:=by
 intro n
 induction n using Nat.strongRecOn with
 | _ n ih=>
   intro cs x h hw;obtain⟨xs,m,rY,rfl,hl,hlen,hf⟩:=DataW.trod_struct Y.u26 h;rw[Y.c26] at hl;have akZ:xs.length=5:=hlen
   match cs,hl,xs,akZ with
   | [u0,u1,u2,u3,u4,u5],_,[y0,y1,y2,y3,y4],_=>
     have h0:DataW.trod enc P W base sp held m 3 (([u0,u1,u2,u3,u4,u5].drop 0).take (P.cellsOf 3))=some y0:=hf 0 _ rfl;have h1:DataW.trod enc P W base sp held m 23 (([u0,u1,u2,u3,u4,u5].drop 1).take (P.cellsOf 23))=some y1:=hf 1 _ rfl;have h2:DataW.trod enc P W base sp held m 9 (([u0,u1,u2,u3,u4,u5].drop 3).take (P.cellsOf 9))=some y2:=hf 2 _ rfl;have h3:DataW.trod enc P W base sp held m 24 (([u0,u1,u2,u3,u4,u5].drop 4).take (P.cellsOf 24))=some y3:=hf 3 _ rfl;have h4:DataW.trod enc P W base sp held m 24 (([u0,u1,u2,u3,u4,u5].drop 5).take (P.cellsOf 24))=some y4:=hf 4 _ rfl;simp only[Y.c3,Y.c23,Y.c9,Y.c24,List.drop_zero,List.take_succ_cons,List.take_zero,List.drop_succ_cons] at h0 h1 h2 h3 h4;obtain⟨k,e0,-,-⟩:=DataW.trod_int Y.u3 h0;obtain⟨a,b,e1⟩:=abT Y h1;obtain⟨s,rfl⟩:=str_of_trod Y h2;simp only[List.cons.injEq,and_true] at e0 e1;subst e0;obtain⟨rfl,rfl⟩:=e1;simp only[DataW.weights,Y.u26,List.map_cons,List.map_nil,DataW.weightsEach,List.append_nil,z12] at hw
     have key:∀(u:Value) (y:DataW H×List MemPlace),DataW.trod enc P W base sp held m 24 [u]=some y->(∀k∈y.1.weights P 24,k<=reachBytes)->
      ∃(l:List aT) (A:Option Addr) (c:Nat),u= .slice A l.length c/\l.length<6000000000000/\(0<l.length->∃b off,A=some ⟨b,off,none⟩/\True/\jq W (λ_=>True) l b off):=by
      intro u y hy hwy
      rcases DataW.trod_slice Y.u24 hy with ⟨e,-⟩ | ⟨ad,len,cap,elems,rest,m2,nJ,e,rfl,-,hlc,yg,lT,oV,-,-⟩
      ·simp only[List.cons.injEq,and_true] at e;exact⟨[],none,0,e,zP,λhp=>by simp at hp⟩
      simp only[List.cons.injEq,and_true] at e
      have bP:len<6000000000000:=by
       have h9:=hwy ((elems.length+rest.length)*104) (by simp[DataW.weights,Y.u24,Y.b26]);unfold reachBytes at h9;rw[lT] at h9;omega
      by_cases Me:len=0
      ·subst Me;exact⟨[],some ad,cap,e,zP,λhp=>by simp at hp⟩
      have mM:ad.spot=none:=by
       have h7:=oV 0 zO;rw[z6 (show 0<elems.length by omega)] at h7;exact acA (by rw[Y.c26];omega) h7
      obtain⟨blk,off,spot⟩:=ad;simp only at mM;subst mM
      have dW:∀i,i<len->∃c,∃cs,cu W blk (off+i*6) cs/\dA W (λ_=>True) c cs:=by
       intro i hi;have h7:=oV i hi;rw[z6 (show i<elems.length by omega)] at h7;obtain⟨cs,h9,AP⟩:=aex h7;rw[Y.c26] at h9
       obtain⟨c,hc⟩:=ih m2 zO cs _ AP (λk hk=>hwy k (by
        simp only[DataW.weights,Y.u24,TT,z12]
        exact .inr (.inl (weightsAll_mem (List.mem_map.2 ⟨_,List.getElem_mem _,rfl⟩) k hk))))
       exact⟨c,cs,h9,hc⟩
      obtain⟨l,hll,hlg⟩:=aca len dW;exact⟨l,some ⟨blk,off,none⟩,cap,by rw[hll];exact e,by rw[hll];exact bP,λhp=>⟨blk,off,rfl,trivial,jq.Wv λi c hc=>hlg i c hc⟩⟩
     obtain⟨ex,A,c,rfl,ai,LV⟩:=key u4 y3 h3 (λk hk=>hw k (by simp[hk]));obtain⟨ar,A',c',rfl,ag,hr2⟩:=key u5 y4 h4 (λk hk=>hw k (by simp[hk]));refine⟨.mk k a b s ex ar,?_⟩;rw[dA];exact⟨A,c,A',c',rfl,ai,ag,LV,hr2⟩
theorem aaX{n:Nat}{ts te:TypeId}{sz by_:Nat}{cs0:List Value}{y:DataW H×List MemPlace}(hu:P.underlying ts=some (.slice te))(hce:P.cellsOf te=sz)(jm:P.bytesOf te=by_)(bY:0<sz)(nP:24<=by_)
 (hy:DataW.trod enc P W base sp held n ts cs0=some y) (hwy:∀k∈y.1.weights P ts,k<=reachBytes) {α:Type} (dat:α->List D) (K:α->List Value->Prop)
 (ih:∀(m:Nat) (cs:List Value) (x:DataW H×List MemPlace),m<n->DataW.trod enc P W base sp held m te cs=some x->(∀k∈x.1.weights P te,k<=reachBytes)->∃a,au W (λ_=>True) (dat a) cs/\K a cs):
 ∃(l:List α) (A:Option Addr) (c:Nat),cs0=[.slice A l.length c]/\l.length<6000000000000/\l.length<=c/\bM W (λ_=>True) sz (l.map dat) A l.length/\∀b off,A=some ⟨b,off,none⟩->∀i a,l[i]?=some a->∃cs,cu W b (off+i*sz) cs/\K a cs:=by
 rcases DataW.trod_slice hu hy with ⟨e,-⟩ | ⟨ad,len,cap,elems,rest,m2,nJ,e,rfl,-,hlc,yg,lT,oV,-,-⟩
 ·exact⟨[],none,0,e,zP,zP,bM.nil _ _ _ _,λ_ _ _ _ _ h=>by cases h⟩
 have bP:len<6000000000000:=by
  have h9:=hwy ((elems.length+rest.length)*by_) (by simp[DataW.weights,hu,jm]);unfold reachBytes at h9;rw[lT] at h9;have AP:(len+rest.length)*24<=(len+rest.length)*by_:=Nat.mul_le_mul_left _ nP;omega
 by_cases Me:len=0
 ·subst Me;exact⟨[],some ad,cap,e,zP,zP,bM.nil _ _ _ _,λ_ _ _ _ _ h=>by cases h⟩
 have mM:ad.spot=none:=by
  have h7:=oV 0 zO;rw[z6 (show 0<elems.length by omega)] at h7;exact acA (by rw[hce];omega) h7
 obtain⟨blk,off,spot⟩:=ad;simp only at mM;subst mM
 have dW:∀i,i<len->∃a,∃cs,cu W blk (off+i*sz) cs/\au W (λ_=>True) (dat a) cs/\K a cs:=by
  intro i hi;have h7:=oV i hi;rw[z6 (show i<elems.length by omega)] at h7;obtain⟨cs,h9,AP⟩:=aex h7;rw[hce] at h9
  obtain⟨a,ha⟩:=ih m2 cs _ zO AP (λk hk=>hwy k (by
   simp only[DataW.weights,hu,TT,z12]
   exact .inr (.inl (weightsAll_mem (List.mem_map.2 ⟨_,List.getElem_mem _,rfl⟩) k hk))))
  exact⟨a,cs,h9,ha⟩
 obtain⟨l,hll,hlg⟩:=aca len dW;refine⟨l,some ⟨blk,off,none⟩,cap,by rw[hll];exact e,by rw[hll];exact bP,by rw[hll];exact hlc,⟨by rw[z8],λhp=>⟨blk,off,rfl,trivial,bK.Wv λi e he=>?_⟩⟩,λb o e i a ha=>?_⟩
 ·rw[z17] at he
  cases hc:l[i]? with
  | none=>rw[hc] at he;cases he
  | some c=>
    rw[hc] at he;obtain rfl:dat c=e:=(by simpa using he);obtain⟨cs,g1,g2,-⟩:=hlg i c hc;exact⟨cs,g1,g2⟩
 obtain⟨rfl,rfl⟩:blk=b/\off=o:=by
  injection e with e
  injection e with e1 e2
  exact⟨e1,e2⟩
 obtain⟨cs,g1,-,g3⟩:=hlg i a ha;exact⟨cs,g1,g3⟩
theorem agX(Y:Lays P):∀(n:Nat) (cs:List Value) (x:DataW H×List MemPlace),DataW.trod enc P W base sp held n 29 cs=some x->(∀k∈x.1.weights P 29,k<=reachBytes)->∃p,au W (λ_=>True) (aZ p) cs/\cs.length=12/\aem W p cs:=by
 intro n
 induction n using Nat.strongRecOn with
 | _ n ih=>
   intro cs x h hw;obtain⟨xs,m,rY,rfl,hl,hlen,hf⟩:=DataW.trod_struct Y.u29 h;rw[Y.c29] at hl;have akZ:xs.length=7:=hlen
   match cs,hl,xs,akZ with
   | [u0,u1,u2,u3,u4,u5,u6,u7,u8,u9,u10,u11],_,[y0,y1,y2,y3,y4,y5,y6],_=>
     have h0:DataW.trod enc P W base sp held m 3 (([u0,u1,u2,u3,u4,u5,u6,u7,u8,u9,u10,u11].drop 0).take (P.cellsOf 3))=some y0:=hf 0 _ rfl;have h1:DataW.trod enc P W base sp held m 3 (([u0,u1,u2,u3,u4,u5,u6,u7,u8,u9,u10,u11].drop 1).take (P.cellsOf 3))=some y1:=hf 1 _ rfl;have h2:DataW.trod enc P W base sp held m 3 (([u0,u1,u2,u3,u4,u5,u6,u7,u8,u9,u10,u11].drop 2).take (P.cellsOf 3))=some y2:=hf 2 _ rfl;have h3:DataW.trod enc P W base sp held m 3 (([u0,u1,u2,u3,u4,u5,u6,u7,u8,u9,u10,u11].drop 3).take (P.cellsOf 3))=some y3:=hf 3 _ rfl;have h4:DataW.trod enc P W base sp held m 26 (([u0,u1,u2,u3,u4,u5,u6,u7,u8,u9,u10,u11].drop 4).take (P.cellsOf 26))=some y4:=hf 4 _ rfl;have h5:DataW.trod enc P W base sp held m 3 (([u0,u1,u2,u3,u4,u5,u6,u7,u8,u9,u10,u11].drop 10).take (P.cellsOf 3))=some y5:=hf 5 _ rfl;have h6:DataW.trod enc P W base sp held m 27 (([u0,u1,u2,u3,u4,u5,u6,u7,u8,u9,u10,u11].drop 11).take (P.cellsOf 27))=some y6:=hf 6 _ rfl;simp only[Y.c3,Y.c26,Y.c27,List.drop_zero,List.take_succ_cons,List.take_zero,List.drop_succ_cons] at h0 h1 h2 h3 h4 h5 h6;obtain⟨k,e0,-,-⟩:=DataW.trod_int Y.u3 h0;obtain⟨mn,e1,-,-⟩:=DataW.trod_int Y.u3 h1;obtain⟨mx,e2,-,-⟩:=DataW.trod_int Y.u3 h2;obtain⟨el,e3,-,-⟩:=DataW.trod_int Y.u3 h3;obtain⟨pr,e5,-,-⟩:=DataW.trod_int Y.u3 h5;simp only[List.cons.injEq,and_true] at e0 e1 e2 e3 e5;subst e0 e1 e2 e3 e5;simp only[DataW.weights,Y.u29,List.map_cons,List.map_nil,DataW.weightsEach,List.append_nil,z12] at hw;obtain⟨c,hc⟩:=agW Y m _ _ h4 (λk hk=>hw k (by simp[hk]));obtain⟨l,A,cap,e6,aN,Yw,aI,hK⟩:=aaX Y.u27 Y.c29 Y.b29 zD zD h6 (λk hk=>hw k (by simp[hk])) aZ (λp cs=>cs.length=12/\aem W p cs) (λm' cs' x' O3 hx' hw'=>ih m' zO cs' x' hx' hw');obtain rfl:=(List.cons.inj e6).1;refine⟨.mk k mn mx el c pr l,?_,rfl,by rw[aem];exact⟨A,l.length,cap,rfl,Yw,λb off e=>aau.of (hK b off e)⟩⟩;rw[Vf] at hc
     cases c with
     | mk ck ns nl s ex ar=>
       rw[Es] at hc;rw[Et,Es];simp only[au.gu,au.oL,gI.rq] at hc;obtain⟨_,_,e0,rfl,_,_,rfl,rfl,_,_,rfl,rfl,_,_,rfl,rfl,v4,_,rfl,g4,v5,_,rfl,g5,rfl⟩:=hc;simp only[List.cons.injEq,and_true] at e0;obtain⟨rfl,rfl,rfl,rfl,rfl,rfl⟩:=e0;simp only[List.cons_append,List.nil_append,au.gu,au.oL,gI.rq];exact⟨_,_,rfl,rfl,_,_,rfl,rfl,_,_,rfl,rfl,_,_,rfl,rfl,_,_,rfl,rfl,_,_,rfl,rfl,_,_,rfl,rfl,_,_,rfl,rfl,_,_,rfl,g4,_,_,rfl,g5,_,_,rfl,rfl,_,_,rfl,aI.rep aN,rfl⟩
theorem agY(Y:Lays P)(n:Nat)(cs:List Value)(x:DataW H×List MemPlace)(h:DataW.trod enc P W base sp held n 37 cs=some x)(hw:∀k∈x.1.weights P 37,k<=reachBytes):∃l,au W (λ_=>True) (nU l) cs:=by
 obtain⟨l,A,cap,rfl,aN,-,aI,-⟩:=aaX Y.u37 Y.c23 Y.b23 zD zD h hw nmD (λ_ _=>True) (λm' cs' x' _ hx' _=>by
  obtain⟨a,b,rfl⟩:=abT Y hx';refine⟨(a,b),?_,trivial⟩;simp only[nmD,au.gu,au.oL,gI.rq]
  exact⟨_,_,rfl,rfl,_,_,rfl,rfl,rfl⟩)
 refine⟨l,?_⟩;rw[nU];simp only[au.gu,au.oL];exact⟨_,_,rfl,aI.rep aN,rfl⟩
theorem arX(Y:Lays P){v:Value}{d:DataW H}{ps:List MemPlace}(hv:Value.okWide P W .any base 29 v){base':Nat}(h:DataW.Trod enc P W base' sp held 29 v d ps)(hw:∀k∈d.weights P 29,k<=reachBytes):∃p cs,v= .agg cs.toArray/\au W (· <W.heap.size) (aZ p) cs/\aem W p cs:=by
 unfold Value.okWide at hv;rw[Y.u29] at hv;obtain⟨cs,rfl,hs,-⟩:=hv;obtain⟨n,hn⟩:=h;obtain⟨p,hp,-,hc⟩:=agX Y n _ _ hn hw;exact⟨p,cs.toList,zP,by simpa[Value.cells] using au.here _ _ (jK p) hp,by simpa[Value.cells] using hc⟩
theorem ak3(Y:Lays P){v:Value}{d:DataW H}{ps:List MemPlace}(hv:Value.okWide P W .any base 30 v){base':Nat}(h:DataW.Trod enc P W base' sp held 30 v d ps)(hw:∀k∈d.weights P 30,k<=reachBytes):∃(elems:List (List Nm)) (A:Option Addr) (c:Nat),v= .slice A elems.length c/\elems.length<6000000000000/\bM W (· <W.heap.size) 1 (elems.map nU) A elems.length:=by
 obtain⟨a,len,cap,rfl⟩:=okWide_slice Y.u30 hv;obtain⟨n,hn⟩:=h;obtain⟨l,A,c,e,aN,-,aI,-⟩:=aaX Y.u30 Y.c37 Y.b37 zD zD hn hw nU (λ_ _=>True) (λm' cs' x' _ hx' hw'=>(agY Y m' cs' x' hx' hw').imp λ_ h=>⟨h,trivial⟩);exact⟨l,A,c,(List.cons.inj e).1,aN,aI.here (Nz l)⟩
theorem aGd(Y:Lays P){v:Value}{d:DataW H}{ps:List MemPlace}(hv:Value.okWide P W .any base 37 v){base':Nat}(h:DataW.Trod enc P W base' sp held 37 v d ps)(hw:∀k∈d.weights P 37,k<=reachBytes):∃(l:List Nm) (A:Option Addr) (c:Nat),v= .slice A l.length c/\l.length<6000000000000/\l.length<=c/\bM W (· <W.heap.size) 2 (l.map nmD) A l.length:=by
 obtain⟨a,len,cap,rfl⟩:=okWide_slice Y.u37 hv;obtain⟨n,hn⟩:=h
 obtain⟨l,A,c,e,aN,Yw,aI,-⟩:=aaX Y.u37 Y.c23 Y.b23 zD zD hn hw nmD (λ_ _=>True) (λm' cs' x' _ hx' _=>by
  obtain⟨a,b,rfl⟩:=abT Y hx';refine⟨(a,b),?_,trivial⟩;simp only[nmD,au.gu,au.oL,gI.rq]
  exact⟨_,_,rfl,rfl,_,_,rfl,rfl,rfl⟩)
 exact⟨l,A,c,(List.cons.inj e).1,aN,Yw,aI.here (ar7 l)⟩
end Read
end

