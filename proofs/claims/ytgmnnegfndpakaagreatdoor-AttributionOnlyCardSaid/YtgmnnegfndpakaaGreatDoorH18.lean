import Derived.Test.YtgmnnegfndpakaaGreatDoorH15
import Derived.ProofKit
import Derived.OpenShut
import Derived.Deep.DeepHandedRow
import Derived.SizedLaws
import Derived.Below
import Derived.ChangeSame
import Derived.WideShapes
set_option maxHeartbeats 20000000
set_option maxRecDepth 100000
namespace Go.Proofs.YtgmnnegfndpakaaGreatDoor
open Go.RowKit Go.Proofs.Tryz
variable{α:Type}{n:Int}{i:Nat}{v:Bool}{p:Prop}{x:α}{f:α->Bool}{l:List α}
section
open Go.ChangeShapes Go.WideShapes Go.ChangeAt
theorem auP:prog.cellsOf 26=6:=by kernel_rfl
theorem auQ:prog.cellsOf 23=2:=by kernel_rfl
theorem auS:prog.cellsOf 29=12:=by kernel_rfl
theorem auW:prog.cellsOf 24=1:=by kernel_rfl
theorem auX:prog.cellsOf 27=1:=by kernel_rfl
theorem auY:prog.cellsOf 37=1:=by kernel_rfl
theorem aAk:prog.cellsOf 9=1:=by kernel_rfl
theorem aAl:prog.cellsOf 3=1:=by kernel_rfl
theorem auZ:prog.bytesOf 26=104:=by kernel_rfl
theorem au3:prog.bytesOf 23=32:=by kernel_rfl
theorem avi:prog.bytesOf 29=168:=by kernel_rfl
theorem avm:prog.bytesOf 37=24:=by kernel_rfl
theorem laidOut:laidOutB prog=true:=by kernel_rfl
theorem aca{Q:Nat->α->Prop}:∀n:Nat,(∀i,i<n->∃a,Q i a)->∃l:List α,l.length=n/\∀i a,l[i]?=some a->Q i a
 | 0,_=>⟨[],rfl,λi a h=>by simp at h⟩
 | n+1,h=>by
   obtain⟨l,h1,h2⟩:=aca n (λi hi=>h i zO);obtain⟨a,ha⟩:=h n zO;refine⟨l++[a],by simp[h1],λi b hb=>?_⟩
   rcases i8 i l.length with hi | hi
   ·rw[z20 hi] at hb;exact h2 i b hb
   rw[z21 hi] at hb;have aN:=(z4.1 hb).1;simp at aN;have e:i=n:=zO;subst e;rw[h1,Nat.sub_self] at hb;obtain rfl:a=b:=(by simpa using hb);exact ha
structure Lays (P:Program):Prop where
 u26:P.underlying 26=some (.struct #[{ name:="Kind",type:=3,offset:=0,embedded:=false,tag:="",pkgPath:="",byteOffset:=0 },{ name:="Name",type:=23,offset:=1,embedded:=false,tag:="",pkgPath:="",byteOffset:=8 },{ name:="Space",type:=9,offset:=3,embedded:=false,tag:="",pkgPath:="",byteOffset:=40 },{ name:="Except",type:=24,offset:=4,embedded:=false,tag:="",pkgPath:="",byteOffset:=56 },{ name:="Args",type:=24,offset:=5,embedded:=false,tag:="",pkgPath:="",byteOffset:=80 }])
 u23:P.underlying 23=some (.struct #[{ name:="Space",type:=9,offset:=0,embedded:=false,tag:="",pkgPath:="",byteOffset:=0 },{ name:="Local",type:=9,offset:=1,embedded:=false,tag:="",pkgPath:="",byteOffset:=16 }])
 u29:P.underlying 29=some (.struct #[{ name:="Kind",type:=3,offset:=0,embedded:=false,tag:="",pkgPath:="",byteOffset:=0 },{ name:="Min",type:=3,offset:=1,embedded:=false,tag:="",pkgPath:="",byteOffset:=8 },{ name:="Max",type:=3,offset:=2,embedded:=false,tag:="",pkgPath:="",byteOffset:=16 },{ name:="Elem",type:=3,offset:=3,embedded:=false,tag:="",pkgPath:="",byteOffset:=24 },{ name:="Class",type:=26,offset:=4,embedded:=false,tag:="",pkgPath:="",byteOffset:=32 },{ name:="Process",type:=3,offset:=10,embedded:=false,tag:="",pkgPath:="",byteOffset:=136 },{ name:="Args",type:=27,offset:=11,embedded:=false,tag:="",pkgPath:="",byteOffset:=144 }])
 u24:P.underlying 24=some (.slice 26)
 u27:P.underlying 27=some (.slice 29)
 u30:P.underlying 30=some (.slice 37)
 u37:P.underlying 37=some (.slice 23)
 u9:P.underlying 9=some .string
 u3:P.underlying 3=some (.int .i64)
 c26:P.cellsOf 26=6
 c23:P.cellsOf 23=2
 c29:P.cellsOf 29=12
 c24:P.cellsOf 24=1
 c27:P.cellsOf 27=1
 c37:P.cellsOf 37=1
 c9:P.cellsOf 9=1
 c3:P.cellsOf 3=1
 b26:P.bytesOf 26=104
 b23:P.bytesOf 23=32
 b29:P.bytesOf 29=168
 b37:P.bytesOf 37=24
theorem lays:Lays prog:=⟨underlying26,underlying23,underlying29,underlying24,underlying27,underlying30,underlying37,underlying9,underlying3,auP,auQ,auS,auW,auX,auY,aAk,aAl,auZ,au3,avi,avm⟩
section Read
variable {P:Program}
variable {H:Type} {enc:TypeId×Value->H} {W:World} {base:Nat} {sp:Nat->Bool} {held:Bool}
theorem str_of_trod(Y:Lays P){n:Nat}{u:Value}{x:DataW H×List MemPlace}(h:DataW.trod enc P W base sp held n 9 [u]=x):∃s:ByteArray,u= s:=by
 obtain⟨s,h1,_⟩:=DataW.trod_string Y.u9 h;exact⟨s,by simpa using h1⟩
theorem abT(Y:Lays P){n:Nat}{cs:List Value}{x:DataW H×List MemPlace}(h:DataW.trod enc P W base sp held n 23 cs=x):∃a b:ByteArray,cs=[.string a,.string b]:=by
 obtain⟨y0,y1,m,_,hl,h0,h1⟩:=trod_struct2 Y.u23 h;rw[Y.c23] at hl
 match cs,hl with
 | [u,v],_=>
   simp only[Y.c9,List.drop_zero,Zs,List.take_zero,List.drop_succ_cons] at h0 h1;obtain⟨a,rfl⟩:=str_of_trod Y h0;obtain⟨b,rfl⟩:=str_of_trod Y h1;exact⟨a,b,rfl⟩
theorem weightsAll_mem{e:TypeId}{d:DataW H}:∀{l:List (DataW H)},d∈l->∀k∈d.weights P e,k∈DataW.weightsAll P e l
 | c::l,hd,k,hk=>by
   rw[DataW.weightsAll,z12]
   rcases TT.1 hd with rfl | hd
   ·exact .inl hk
   exact .inr (weightsAll_mem hd k hk)
theorem jq.Wv{F:Nat->Prop}{l:List aT}{b off:Nat}(h:∀i c,l[i]?=some c->∃cs,cu W b (off+i*6) cs/\dA W F c cs):jq W F l b off:=by
 rw[IE];refine bK.Wv λi e he=>?_;rw[z17] at he
 cases hc:l[i]? with
 | none=>rw[hc] at he;cases he
 | some c=>
   rw[hc] at he;obtain rfl:wC c=e:=(by simpa using he);obtain⟨cs,h1,h2⟩:=h i c hc;exact⟨cs,h1,(Vf _ _ _ _).1 h2⟩
theorem acA{n:Nat}{e:TypeId}{a:Addr}{y:DataW H×List MemPlace}(hk:0<P.cellsOf e)(h:(W.cells? base (a.add (0*P.cellsOf e)) (P.cellsOf e)).bind (DataW.trod enc P W base sp held n e)=y):a.spot=none:=by
 obtain⟨cs,h1,h2⟩:=Option.bind_eq_some_iff.1 h;obtain⟨hb,hl,hc⟩:=World.cells?_some h1;have h0:=hc 0 hk
 cases h3:cs[0]? with
 | none=>rw[z22] at h3;omega
 | some v=>
   rw[h3] at h0;simpa[Addr.add] using World.cell?_spot h0
theorem aex{n:Nat}{e:TypeId}{blk off k:Nat}{y:DataW H×List MemPlace}(h:(W.cells? base (((blk,off):Addr).add (k*P.cellsOf e)) (P.cellsOf e)).bind (DataW.trod enc P W base sp held n e)=y):
 ∃cs,cu W blk (off+k*P.cellsOf e) cs/\DataW.trod enc P W base sp held n e cs=some y:=by
 obtain⟨cs,h1,h2⟩:=Option.bind_eq_some_iff.1 h;obtain⟨hb,hl,hc⟩:=World.cells?_some h1;refine⟨cs,λj v hv=>?_,h2⟩;have hj:j<cs.length:=(z4.1 hv).1;have:=hc j zO;rw[hv,ajc,ajc] at this;exact this
theorem agW(Y:Lays P):∀(n:Nat) (cs:List Value) (x:DataW H×List MemPlace),DataW.trod enc P W base sp held n 26 cs=x->(∀k∈x.1.weights P 26,k<=reachBytes)->∃c,dA W (λ_=>True) c cs:=by
 intro n
 induction n using Nat.strongRecOn with
 | _ n ih=>
   intro cs x h hw;obtain⟨xs,m,rY,rfl,hl,hlen,hf⟩:=DataW.trod_struct Y.u26 h;rw[Y.c26] at hl;have akZ:xs.length=5:=hlen
   match cs,hl,xs,akZ with
   | [u0,u1,u2,u3,u4,u5],_,[y0,y1,y2,y3,y4],_=>
     have h0:DataW.trod enc P W base sp held m 3 (([u0,u1,u2,u3,u4,u5].drop 0).take (P.cellsOf 3))=y0:=hf 0 _ rfl;have h1:DataW.trod enc P W base sp held m 23 (([u0,u1,u2,u3,u4,u5].drop 1).take (P.cellsOf 23))=y1:=hf 1 _ rfl;have h2:DataW.trod enc P W base sp held m 9 (([u0,u1,u2,u3,u4,u5].drop 3).take (P.cellsOf 9))=y2:=hf 2 _ rfl;have h3:DataW.trod enc P W base sp held m 24 (([u0,u1,u2,u3,u4,u5].drop 4).take (P.cellsOf 24))=y3:=hf 3 _ rfl;have h4:DataW.trod enc P W base sp held m 24 (([u0,u1,u2,u3,u4,u5].drop 5).take (P.cellsOf 24))=y4:=hf 4 _ rfl;simp only[Y.c3,Y.c23,Y.c9,Y.c24,List.drop_zero,Zs,List.take_zero,List.drop_succ_cons] at h0 h1 h2 h3 h4;obtain⟨k,e0,-,-⟩:=DataW.trod_int Y.u3 h0;obtain⟨a,b,e1⟩:=abT Y h1;obtain⟨s,rfl⟩:=str_of_trod Y h2;simp only[i7,and_true] at e0 e1;subst e0;obtain⟨rfl,rfl⟩:=e1;simp only[DataW.weights,Y.u26,Jm,List.map_nil,DataW.weightsEach,m8,z12] at hw
     have key:∀(u:Value) (y:DataW H×List MemPlace),DataW.trod enc P W base sp held m 24 [u]=y->(∀k∈y.1.weights P 24,k<=reachBytes)->
      ∃(l:List aT) (A:Option Addr) (c:Nat),u= (A,l.length,c)/\l.length<6000000000000/\(0<l.length->∃b off,A=some ⟨b,off,none⟩/\True/\jq W (λ_=>True) l b off):=by
      intro u y hy hwy
      rcases DataW.trod_slice Y.u24 hy with ⟨e,-⟩ | ⟨ad,len,cap,elems,rest,m2,nJ,e,rfl,-,hlc,yg,lT,oV,-,-⟩
      ·simp only[i7,and_true] at e;exact⟨[],none,0,e,zP,λhp=>by simp at hp⟩
      simp only[i7,and_true] at e
      have bP:len<6000000000000:=by
       have h9:=hwy ((elems.length+rest.length)*104) (by simp[DataW.weights,Y.u24,Y.b26]);unfold reachBytes at h9;rw[lT] at h9;omega
      by_cases Me:len=0
      ·subst Me;exact⟨[],some ad,cap,e,zP,λhp=>by simp at hp⟩
      have mM:ad.spot=none:=by
       have h7:=oV 0 zO;rw[z6 (show 0<elems.length by omega)] at h7;exact acA (by rw[Y.c26];omega) h7
      obtain⟨blk,off,spot⟩:=ad;simp only at mM;subst mM
      have dW:∀i,i<len->∃c,∃cs,cu W blk (off+i*6) cs/\dA W (λ_=>True) c cs:=by
       intro i hi;have h7:=oV i hi;rw[z6 (show i<elems.length by omega)] at h7;obtain⟨cs,h9,AP⟩:=aex h7;rw[Y.c26] at h9
       obtain⟨c,hc⟩:=ih m2 zO cs _ AP (λk hk=>hwy k (by
        simp only[DataW.weights,Y.u24,TT,z12]
        exact .inr (.inl (weightsAll_mem (List.mem_map.2 ⟨_,List.getElem_mem _,rfl⟩) k hk))))
       exact⟨c,cs,h9,hc⟩
      obtain⟨l,hll,hlg⟩:=aca len dW;exact⟨l,(blk,off),cap,by rw[hll];exact e,by rw[hll];exact bP,λhp=>⟨blk,off,rfl,trivial,jq.Wv λi c hc=>hlg i c hc⟩⟩
     obtain⟨ex,A,c,rfl,ai,LV⟩:=key u4 y3 h3 (λk hk=>hw k (by simp[hk]));obtain⟨ar,A',c',rfl,ag,hr2⟩:=key u5 y4 h4 (λk hk=>hw k (by simp[hk]));refine⟨.mk k a b s ex ar,?_⟩;rw[dA];exact⟨A,c,A',c',rfl,ai,ag,LV,hr2⟩
theorem aaX{n:Nat}{ts te:TypeId}{sz by_:Nat}{cs0:List Value}{y:DataW H×List MemPlace}(hu:P.underlying ts=some (.slice te))(hce:P.cellsOf te=sz)(jm:P.bytesOf te=by_)(bY:0<sz)(nP:24<=by_)
 (hy:DataW.trod enc P W base sp held n ts cs0=y) (hwy:∀k∈y.1.weights P ts,k<=reachBytes) {α:Type} (dat:α->List D) (K:α->List Value->Prop)
 (ih:∀(m:Nat) (cs:List Value) (x:DataW H×List MemPlace),m<n->DataW.trod enc P W base sp held m te cs=x->(∀k∈x.1.weights P te,k<=reachBytes)->∃a,au W (λ_=>True) (dat a) cs/\K a cs):
 ∃(l:List α) (A:Option Addr) (c:Nat),cs0=[.slice A l.length c]/\l.length<6000000000000/\l.length<=c/\bM W (λ_=>True) sz (l.map dat) A l.length/\∀b off,A=some ⟨b,off,none⟩->∀i a,l[i]?=some a->∃cs,cu W b (off+i*sz) cs/\K a cs:=by
 rcases DataW.trod_slice hu hy with ⟨e,-⟩ | ⟨ad,len,cap,elems,rest,m2,nJ,e,rfl,-,hlc,yg,lT,oV,-,-⟩
 ·exact⟨[],none,0,e,zP,zP,bM.nil _ _ _ _,λ_ _ _ _ _ h=>by cases h⟩
 have bP:len<6000000000000:=by
  have h9:=hwy ((elems.length+rest.length)*by_) (by simp[DataW.weights,hu,jm]);unfold reachBytes at h9;rw[lT] at h9;have AP:(len+rest.length)*24<=(len+rest.length)*by_:=Nat.mul_le_mul_left _ nP;omega
 by_cases Me:len=0
 ·subst Me;exact⟨[],some ad,cap,e,zP,zP,bM.nil _ _ _ _,λ_ _ _ _ _ h=>by cases h⟩
 have mM:ad.spot=none:=by
  have h7:=oV 0 zO;rw[z6 (show 0<elems.length by omega)] at h7;exact acA (by rw[hce];omega) h7
 obtain⟨blk,off,spot⟩:=ad;simp only at mM;subst mM
 have dW:∀i,i<len->∃a,∃cs,cu W blk (off+i*sz) cs/\au W (λ_=>True) (dat a) cs/\K a cs:=by
  intro i hi;have h7:=oV i hi;rw[z6 (show i<elems.length by omega)] at h7;obtain⟨cs,h9,AP⟩:=aex h7;rw[hce] at h9
  obtain⟨a,ha⟩:=ih m2 cs _ zO AP (λk hk=>hwy k (by
   simp only[DataW.weights,hu,TT,z12]
   exact .inr (.inl (weightsAll_mem (List.mem_map.2 ⟨_,List.getElem_mem _,rfl⟩) k hk))))
  exact⟨a,cs,h9,ha⟩
 obtain⟨l,hll,hlg⟩:=aca len dW;refine⟨l,(blk,off),cap,by rw[hll];exact e,by rw[hll];exact bP,by rw[hll];exact hlc,⟨by rw[z8],λhp=>⟨blk,off,rfl,trivial,bK.Wv λi e he=>?_⟩⟩,λb o e i a ha=>?_⟩
 ·rw[z17] at he
  cases hc:l[i]? with
  | none=>rw[hc] at he;cases he
  | some c=>
    rw[hc] at he;obtain rfl:dat c=e:=(by simpa using he);obtain⟨cs,g1,g2,-⟩:=hlg i c hc;exact⟨cs,g1,g2⟩
 obtain⟨rfl,rfl⟩:blk=b/\off=o:=by
  injection e with e
  injection e with e1 e2
  exact⟨e1,e2⟩
 obtain⟨cs,g1,-,g3⟩:=hlg i a ha;exact⟨cs,g1,g3⟩
theorem agX(Y:Lays P):∀(n:Nat) (cs:List Value) (x:DataW H×List MemPlace),DataW.trod enc P W base sp held n 29 cs=x->(∀k∈x.1.weights P 29,k<=reachBytes)->∃p,au W (λ_=>True) (aZ p) cs/\cs.length=12/\aem W p cs:=by
 intro n
 induction n using Nat.strongRecOn with
 | _ n ih=>
   intro cs x h hw;obtain⟨xs,m,rY,rfl,hl,hlen,hf⟩:=DataW.trod_struct Y.u29 h;rw[Y.c29] at hl;have akZ:xs.length=7:=hlen
   match cs,hl,xs,akZ with
   | [u0,u1,u2,u3,u4,u5,u6,u7,u8,u9,u10,u11],_,[y0,y1,y2,y3,y4,y5,y6],_=>
     have h0:DataW.trod enc P W base sp held m 3 (([u0,u1,u2,u3,u4,u5,u6,u7,u8,u9,u10,u11].drop 0).take (P.cellsOf 3))=y0:=hf 0 _ rfl;have h1:DataW.trod enc P W base sp held m 3 (([u0,u1,u2,u3,u4,u5,u6,u7,u8,u9,u10,u11].drop 1).take (P.cellsOf 3))=y1:=hf 1 _ rfl;have h2:DataW.trod enc P W base sp held m 3 (([u0,u1,u2,u3,u4,u5,u6,u7,u8,u9,u10,u11].drop 2).take (P.cellsOf 3))=y2:=hf 2 _ rfl;have h3:DataW.trod enc P W base sp held m 3 (([u0,u1,u2,u3,u4,u5,u6,u7,u8,u9,u10,u11].drop 3).take (P.cellsOf 3))=y3:=hf 3 _ rfl;have h4:DataW.trod enc P W base sp held m 26 (([u0,u1,u2,u3,u4,u5,u6,u7,u8,u9,u10,u11].drop 4).take (P.cellsOf 26))=y4:=hf 4 _ rfl;have h5:DataW.trod enc P W base sp held m 3 (([u0,u1,u2,u3,u4,u5,u6,u7,u8,u9,u10,u11].drop 10).take (P.cellsOf 3))=y5:=hf 5 _ rfl;have h6:DataW.trod enc P W base sp held m 27 (([u0,u1,u2,u3,u4,u5,u6,u7,u8,u9,u10,u11].drop 11).take (P.cellsOf 27))=y6:=hf 6 _ rfl;simp only[Y.c3,Y.c26,Y.c27,List.drop_zero,Zs,List.take_zero,List.drop_succ_cons] at h0 h1 h2 h3 h4 h5 h6;obtain⟨k,e0,-,-⟩:=DataW.trod_int Y.u3 h0;obtain⟨mn,e1,-,-⟩:=DataW.trod_int Y.u3 h1;obtain⟨mx,e2,-,-⟩:=DataW.trod_int Y.u3 h2;obtain⟨el,e3,-,-⟩:=DataW.trod_int Y.u3 h3;obtain⟨pr,e5,-,-⟩:=DataW.trod_int Y.u3 h5;simp only[i7,and_true] at e0 e1 e2 e3 e5;subst e0 e1 e2 e3 e5;simp only[DataW.weights,Y.u29,Jm,List.map_nil,DataW.weightsEach,m8,z12] at hw;obtain⟨c,hc⟩:=agW Y m _ _ h4 (λk hk=>hw k (by simp[hk]));obtain⟨l,A,cap,e6,aN,Yw,aI,hK⟩:=aaX Y.u27 Y.c29 Y.b29 zD zD h6 (λk hk=>hw k (by simp[hk])) aZ (λp cs=>cs.length=12/\aem W p cs) (λm' cs' x' O3 hx' hw'=>ih m' zO cs' x' hx' hw');obtain rfl:=(List.cons.inj e6).1;refine⟨.mk k mn mx el c pr l,?_,rfl,by rw[aem];exact⟨A,l.length,cap,rfl,Yw,λb off e=>aau.of (hK b off e)⟩⟩;rw[Vf] at hc
     cases c with
     | mk ck ns nl s ex ar=>
       rw[Es] at hc;rw[Et,Es];simp only[au.gu,au.oL,gI.rq] at hc;obtain⟨_,_,e0,rfl,_,_,rfl,rfl,_,_,rfl,rfl,_,_,rfl,rfl,v4,_,rfl,g4,v5,_,rfl,g5,rfl⟩:=hc;simp only[i7,and_true] at e0;obtain⟨rfl,rfl,rfl,rfl,rfl,rfl⟩:=e0;simp only[m7,d6,au.gu,au.oL,gI.rq];exact⟨_,_,rfl,rfl,_,_,rfl,rfl,_,_,rfl,rfl,_,_,rfl,rfl,_,_,rfl,rfl,_,_,rfl,rfl,_,_,rfl,rfl,_,_,rfl,rfl,_,_,rfl,g4,_,_,rfl,g5,_,_,rfl,rfl,_,_,rfl,aI.rep aN,rfl⟩
theorem agY(Y:Lays P)(n:Nat)(cs:List Value)(x:DataW H×List MemPlace)(h:DataW.trod enc P W base sp held n 37 cs=x)(hw:∀k∈x.1.weights P 37,k<=reachBytes):∃l,au W (λ_=>True) (nU l) cs:=by
 obtain⟨l,A,cap,rfl,aN,-,aI,-⟩:=aaX Y.u37 Y.c23 Y.b23 zD zD h hw nmD (λ_ _=>True) (λm' cs' x' _ hx' _=>by
  obtain⟨a,b,rfl⟩:=abT Y hx';refine⟨(a,b),?_,trivial⟩;simp only[nmD,au.gu,au.oL,gI.rq]
  exact⟨_,_,rfl,rfl,_,_,rfl,rfl,rfl⟩)
 refine⟨l,?_⟩;rw[nU];simp only[au.gu,au.oL];exact⟨_,_,rfl,aI.rep aN,rfl⟩
theorem arX(Y:Lays P){v:Value}{d:DataW H}{ps:List MemPlace}(hv:Value.okWide P W .any base 29 v){base':Nat}(h:DataW.Trod enc P W base' sp held 29 v d ps)(hw:∀k∈d.weights P 29,k<=reachBytes):∃p cs,v= .agg cs.toArray/\au W (· <W) (aZ p) cs/\aem W p cs:=by
 unfold Value.okWide at hv;rw[Y.u29] at hv;obtain⟨cs,rfl,hs,-⟩:=hv;obtain⟨n,hn⟩:=h;obtain⟨p,hp,-,hc⟩:=agX Y n _ _ hn hw;exact⟨p,cs.toList,zP,by simpa[Value.cells] using au.here _ _ (jK p) hp,by simpa[Value.cells] using hc⟩
theorem ak3(Y:Lays P){v:Value}{d:DataW H}{ps:List MemPlace}(hv:Value.okWide P W .any base 30 v){base':Nat}(h:DataW.Trod enc P W base' sp held 30 v d ps)(hw:∀k∈d.weights P 30,k<=reachBytes):∃(elems:List (List Nm)) (A:Option Addr) (c:Nat),v= (A,elems.length,c)/\elems.length<6000000000000/\bM W (· <W) 1 (elems.map nU) A elems.length:=by
 obtain⟨a,len,cap,rfl⟩:=okWide_slice Y.u30 hv;obtain⟨n,hn⟩:=h;obtain⟨l,A,c,e,aN,-,aI,-⟩:=aaX Y.u30 Y.c37 Y.b37 zD zD hn hw nU (λ_ _=>True) (λm' cs' x' _ hx' hw'=>(agY Y m' cs' x' hx' hw').imp λ_ h=>⟨h,trivial⟩);exact⟨l,A,c,(List.cons.inj e).1,aN,aI.here (Nz l)⟩
theorem aGd(Y:Lays P){v:Value}{d:DataW H}{ps:List MemPlace}(hv:Value.okWide P W .any base 37 v){base':Nat}(h:DataW.Trod enc P W base' sp held 37 v d ps)(hw:∀k∈d.weights P 37,k<=reachBytes):∃(l:List Nm) (A:Option Addr) (c:Nat),v= (A,l.length,c)/\l.length<6000000000000/\l.length<=c/\bM W (· <W) 2 (l.map nmD) A l.length:=by
 obtain⟨a,len,cap,rfl⟩:=okWide_slice Y.u37 hv;obtain⟨n,hn⟩:=h
 obtain⟨l,A,c,e,aN,Yw,aI,-⟩:=aaX Y.u37 Y.c23 Y.b23 zD zD hn hw nmD (λ_ _=>True) (λm' cs' x' _ hx' _=>by
  obtain⟨a,b,rfl⟩:=abT Y hx';refine⟨(a,b),?_,trivial⟩;simp only[nmD,au.gu,au.oL,gI.rq]
  exact⟨_,_,rfl,rfl,_,_,rfl,rfl,rfl⟩)
 exact⟨l,A,c,(List.cons.inj e).1,aN,Yw,aI.here (ar7 l)⟩
end Read
end
def okR(n:Int)(five:Bool)(x:aJ):Bool:=(bU x.mn x.mx&&bT n false x)&&!(five&&(decide (x.mx<1)||decide (3<x.mx)||!pJ n x))
theorem akb{x:aJ}(h:bT n false x=true):pJ n x=fD x.kind:=by
 have h5:x.kind≠5:=by
  intro e;rw[ahl e] at h;simp at h
 by_cases h1:x.kind=1
 ·rw[abm h1] at h;simp only[z7,gy] at h;rw[YG zO h1];unfold fD;simp[h,h1]
 by_cases h2:x.kind=2
 ·rw[abn h2] at h;simp only[z7,gy] at h;rw[YH zO h2];unfold fD;simp[h,h2]
 rw[acI h1 h2];unfold fD;simp[h1,h2]
theorem Oa(n:Int):∀l:List aJ,l.all (okR n false)=jZ n l
 | []=>by rw[jZ];rfl
 | x::l=>by rw[List.all_cons,jZ,Oa n l];unfold okR;simp
theorem Rl(n:Int):∀l:List aJ,l.all (okR n true)=(jZ n l&&!l.any xP)
 | []=>by rw[jZ];rfl
 | x::l=>by
   rw[List.all_cons,jZ,Rl n l,List.any_cons];unfold okR xP;cases h:bT n false x
   ·simp
   rw[akb h,m9];simp only[z7,Bool.not_eq_true',Bool.or_eq_false_iff,decide_eq_false_iff_not,Bool.true_and,Bool.not_eq_false',Bool.and_true];constructor
   ·rintro⟨⟨h1,⟨h2,h3⟩,h4⟩,h5,h6⟩;exact⟨⟨h1,h5⟩,⟨⟨h4,h2⟩,h3⟩,h6⟩
   rintro⟨⟨h1,h5⟩,⟨⟨h4,h2⟩,h3⟩,h6⟩;exact⟨⟨h1,⟨h2,h3⟩,h4⟩,h5,h6⟩
theorem Vy(h:l[i]?=x):(l.drop i).all f=(f x&&(l.drop (i+1)).all f):=by
 obtain⟨hi,rfl⟩:=z4.1 h;rw[nZ hi,List.all_cons]
theorem Ll(nE:Int)(p:aJ)(cs:List Value)(w:World)(F:Nat->Prop)(h:au w F (aZ p) cs)(hv:pJ nE p=v):
 Rt 115 #[.agg cs.toArray,nE] w v:=by subst hv;exact ae9 nE p cs w F h
theorem Xl{top:Bool}{p:aJ}(hk:p.kind=1\/p.kind=2):pJ n p=bT n top p:=by
 rcases hk with hk | hk
 ·by_cases h0:0<p.args.length
  ·rw[N9 h0,abm hk];have:decide (p.args.length=0)=false:=(by simp;intro e;rw[e] at h0;simp at h0);rw[this,Bool.and_false]
  rw[YG h0 hk,abm hk];have:decide (p.args.length=0)=true:=(by simp;exact g9 zO);rw[this,Bool.and_true]
 by_cases h0:0<p.args.length
 ·rw[N9 h0,abn hk];have:decide (p.args.length=0)=false:=(by simp;intro e;rw[e] at h0;simp at h0);rw[this];simp
 rw[YH h0 hk,abn hk];have:decide (p.args.length=0)=true:=(by simp;exact g9 zO);rw[this,m9];simp only[z7,Bool.and_true];constructor
 ·rintro⟨⟨⟨h1,h2⟩,h3⟩,h4⟩;exact⟨⟨⟨h1,h3⟩,h4⟩,h2⟩
 rintro⟨⟨⟨h1,h3⟩,h4⟩,h2⟩;exact⟨⟨⟨h1,h2⟩,h3⟩,h4⟩
theorem aaq (h:p:=by
 go_wp2_with fail;refine AV.mono ?_;rintro e w2 ⟨rfl,ag⟩;clear q0 q1 q2 q3 q4 q5 q6 q7 q8 q9 aF aG;obtain⟨q0,q1,q2,q3,q4,q5,q6,q7,q8,q9,aF,aG⟩:=aj (ae aQ ag);go_wp2_with fail;go_ret
 exact⟨by rw[HF.out];first | rfl | simp,ai.seq ag⟩):p:=h
theorem ay0 (h:p:=by
 obtain⟨i,hi,rfl,HL,aH⟩:=hrel;obtain⟨q0,q1,q2,q3,q4,q5,q6,q7,q8,q9,aF,aG⟩:=aj (ae aQ aH);by_cases aN:i<n
 ·obtain⟨b,off,px,v0,v1,v2,v3,v4,v5,v6,v7,v8,v9,v10,v11,HX,eG,z0,z1,z2,z3,z4,z5,z6,z7,z8,z9,nZ,og,dO⟩:=(lM.below (ai.seq aH)).DW aN c;have hd:=zT1 (i<n);obtain⟨k3,mn3,J3,el3,ck3,ns3,nl3,sp3,B1,m1,d1,B2,m2,d2,pr3,B,m,d,fJ,bW,acK,Rn,-⟩:=aW eG;simp only[i7,and_true] at fJ;obtain⟨rfl,rfl,rfl,rfl,rfl,rfl,rfl,rfl,rfl,rfl,rfl,rfl⟩:=fJ;obtain⟨v,hv⟩:=zF ((bU px.mn px.mx&&bT nE false px));have HS:=zH (Vy (f:=okR nE false) HX);have jr:Hid (okR nE false px=(v&&!(false&&(decide (J3<1)||decide (3<J3)||!pJ nE px)))):=zH (by unfold okR;rw[hv,Rn]);have HC:Hid (Rt 55 #[.agg (o5 k3 mn3 J3 el3 ck3 ns3 nl3 sp3 B1 m1 d1 B2 m2 d2 pr3 B m d),nE,false] wr v):=zH (by rw[<-hv];exact rZ px (SK HX) false _ wr _ eG);have Ph:=zH eG;clear hv eG bW acK Rn;cases v
  ·go_wp2_with fail;refine HC.mono ?_;rintro e w3 ⟨rfl,az⟩;go_wp2_with fail;go_ret;exact⟨by rw[Gl.out,HL.out,HS.out,jr.out];rfl,ai.seq (aH.seq az)⟩
  go_wp2_with fail;refine HC.mono ?_;rintro e w3 ⟨rfl,az⟩;clear q0 q1 q2 q3 q4 q5 q6 q7 q8 q9 aF aG;obtain⟨q0,q1,q2,q3,q4,q5,q6,q7,q8,q9,aF,aG⟩:=aj (ae aQ (aH.seq az));go_wp2_with fail;go_roundw
  case rel=>exact⟨i+1,zO,by go_num,zH (by rw[HL.out,HS.out,jr.out];rfl),aH.seq az⟩
  simp[intOf];omega
 have hd:=zT2 (i<n);have HE:Hid (p.args.drop i=[]):=zH (z14 (by have:=HN.out;omega));go_wp2_with fail;go_ret
 exact⟨by rw[Gl.out,HL.out,HE.out];rfl,ai.seq aH⟩):p:=h
theorem acJ(nE:Int):∀(p:aJ) (top:Bool) (cs:List Value) (w:World) (F:Nat->Prop),au w F (aZ p) cs->
 Rt 55 #[.agg cs.toArray,nE,top] w (bU p.mn p.mx&&bT nE top p:Bool):=by
 intro p
 induction p using aJ.ind with
 | h k' nI mx' uo cl' pr' args ih=>
 intro top cs w F h;have rZ:Hid (∀x∈(aJ.mk k' nI mx' uo cl' pr' args).args,∀(top:Bool) (cs:List Value) (w:World) (F:Nat->Prop),au w F (aZ x) cs->Rt 55 #[.agg cs.toArray,nE,top] w (bU x.mn x.mx&&bT nE top x:Bool)):=zH ih;have bH:=au.here _ _ (jK _) h;obtain⟨p,hp⟩:=zF (aJ.mk k' nI mx' uo cl' pr' args);rw[hp] at rZ bH h ⊢;clear ih hp;obtain⟨k,mn,mx,el,ck,ns,nl,sp,A1,n1,c1,A2,n2,c2,pr,A,n,c,rfl,hk,vH,l9,lT,uq,eH,hn,aI⟩:=aW bH;have hlen:n=p.args.length:=(by have:=aI.1;rwa [z8] at this);obtain⟨HN,lM,jG,vJ⟩:=zJ4 hlen aI bH eH;obtain⟨w1,bI,S1,lY,ai⟩:=zP1 w k mn mx el ck ns nl sp A1 n1 c1 A2 n2 c2 pr A n c;have aQ:=zH S1;obtain⟨nb,gX⟩:=zF (bU mn mx);have oG:=zH gX;obtain⟨R,hR⟩:=zF ((bU p.mn p.mx&&bT nE top p));rw[hR];have HR:Hid ((nb&&bT nE top p)=R):=zH (by rw[<-hR,vH,l9,gX]);obtain⟨HK,ZZ,JU,Xc,UF⟩:=zJ5 hk vH l9 lT uq;obtain⟨q0,q1,q2,q3,q4,q5,q6,q7,q8,q9,aF,aG⟩:=aj S1;clear S1 h bH vH l9 aI hR hk lT uq eH gX hlen;go_enter func55,ntmps55;go_upto_region 1 with fail
 go_cut [37] (λs37 wc=>s37= (!nb:Bool)/\w1=wc)
 case first=>
  have lQ:nb=(decide (0<=mn)&&decide (mn<=20)&&(decide (mx= -1)||(decide (max mn 1<=mx)&&decide (mx<=20)))):=oG.symm;have HQ:=zH lQ;clear lQ;by_cases hm:mx= -1
  ·have hmb:(mx != -1)=false:=(by simp[hm]);have HM:=zH hm;clear hm;go_wp2_with fail
   all_goals
    go_meet;have e:decide (mx= -1)=true:=(by simpa using HM.out);exact⟨(by rw[HQ.out,e];congr 1;simp;try omega),rfl⟩
  have hmb:(mx != -1)=true:=(by simp[hm]);have HM:=zH hm;clear hm;go_wp2_with fail
  all_goals
   go_meet;have e:decide (mx= -1)=false:=(by simpa using HM.out);exact⟨(by rw[HQ.out,e];congr 1;rw[m9];simp;try omega),rfl⟩
 obtain⟨rfl,rfl⟩:=hcut;cases nb
 ·go_wp2_with fail;go_ret;exact⟨by rw[<-HR.out];rfl,ai⟩
 by_cases eu:k=1
 ·subst eu;obtain⟨lv,vX⟩:=zF (pJ nE p);have HC:Hid (Rt 115 #[.agg (o5 1 mn mx el ck ns nl sp A1 n1 c1 A2 n2 c2 pr A n c),nE] w1 lv):=zH (Ll nE p _ w1 _ (jG.below ai) vX);have HX:Hid (R=lv):=zH (by rw[<-HR.out,<-Xl (n:=nE) (top:=top) (.inl HK),vX];rfl);clear vX;go_wp2_with fail;refine HC.mono ?_;rintro e w2 ⟨rfl,ag⟩;go_wp2_with fail;go_ret;exact⟨by rw[HX.out];rfl,ai.seq ag⟩
 by_cases dm:k=2
 ·subst dm;obtain⟨lv,vX⟩:=zF (pJ nE p);have HC:Hid (Rt 115 #[.agg (o5 2 mn mx el ck ns nl sp A1 n1 c1 A2 n2 c2 pr A n c),nE] w1 lv):=zH (Ll nE p _ w1 _ (jG.below ai) vX);have HX:Hid (R=lv):=zH (by rw[<-HR.out,<-Xl (n:=nE) (top:=top) (.inr HK),vX];rfl);clear vX;go_wp2_with fail;refine HC.mono ?_;rintro e w2 ⟨rfl,ag⟩;go_wp2_with fail;go_ret;exact⟨by rw[HX.out];rfl,ai.seq ag⟩
 by_cases bW:k=3
 ·subst bW;obtain⟨e1,BM⟩:=zF ((el==0));obtain⟨e2,DX⟩:=zF ((pr==0));have yB:(el !=0)=!e1:=(by rw[<-BM];rfl);have qY:(pr !=0)=!e2:=(by rw[<-DX];rfl);obtain⟨bv,jS⟩:=zF (qm p.cls);have AV:Hid (Rt 116 #[.agg #[ck,ns,nl,sp,(A1,n1,c1),(A2,n2,c2)]] w1 bv):=zH (Lj p.cls _ w1 _ (vJ.below ai) jS)
  have HF:Hid (R=(e1&&bv&&e2&&p.args.all (okR nE false))):=zH (by
   rw[<-HR.out,apv HK,Oa];unfold xh;rw[Xc.out,UF.out,jS,<-BM,<-DX,oM el 0,oM pr 0];rfl)
  clear jS;cases e1
  ·go_wp2_with fail;go_ret;exact⟨by rw[HF.out];first | rfl | simp,ai⟩
  cases bv
  ·exact aaq
  cases e2
  ·exact aaq
  have Gl:Hid (R=p.args.all (okR nE false)):=zH (by rw[HF.out];rfl);go_wp2_with fail;refine AV.mono ?_;rintro e w2 ⟨rfl,ag⟩;clear q0 q1 q2 q3 q4 q5 q6 q7 q8 q9 aF aG;obtain⟨q0,q1,q2,q3,q4,q5,q6,q7,q8,q9,aF,aG⟩:=aj (ae aQ ag);go_wp2_with fail;clear q0 q1 q2 q3 q4 q5 q6 q7 q8 q9 aF aG
  go_loopw [7] (λsi wr=>∃i:Nat,i<=n/\si= i/\Hid (p.args.all (okR nE false)=(p.args.drop i).all (okR nE false))/\Bw w1 wr)
   (λsi _=>n - (intOf si).toNat)
  case atStart=>exact⟨0,zO,rfl,zH rfl,ag⟩
  exact ay0
 by_cases jl:k=4
 ·subst jl;obtain⟨e1,BM⟩:=zF ((el==0));obtain⟨e2,DX⟩:=zF ((pr==0));have yB:(el !=0)=!e1:=(by rw[<-BM];rfl);have qY:(pr !=0)=!e2:=(by rw[<-DX];rfl);obtain⟨bv,jS⟩:=zF (qm p.cls);have AV:Hid (Rt 116 #[.agg #[ck,ns,nl,sp,(A1,n1,c1),(A2,n2,c2)]] w1 bv):=zH (Lj p.cls _ w1 _ (vJ.below ai) jS);obtain⟨e3,IW⟩:=zF (decide (0<n));have FH:((n:Int)==0)=!e3:=(by rw[<-IW,m9];simp)
  have HF:Hid (R=(e1&&bv&&e2&&e3&&p.args.all (okR nE false))):=zH (by
   rw[<-HR.out,apw HK,Oa];unfold xh;rw[Xc.out,UF.out,jS,<-BM,<-DX,<-IW,oM el 0,oM pr 0,HN.out];rfl)
  clear jS;cases e1
  ·go_wp2_with fail;go_ret;exact⟨by rw[HF.out];first | rfl | simp,ai⟩
  cases bv
  ·exact aaq
  cases e2
  ·exact aaq
  cases e3
  ·exact aaq
  have Gl:Hid (R=p.args.all (okR nE false)):=zH (by rw[HF.out];rfl);go_wp2_with fail;refine AV.mono ?_;rintro e w2 ⟨rfl,ag⟩;clear q0 q1 q2 q3 q4 q5 q6 q7 q8 q9 aF aG;obtain⟨q0,q1,q2,q3,q4,q5,q6,q7,q8,q9,aF,aG⟩:=aj (ae aQ ag);go_wp2_with fail;clear q0 q1 q2 q3 q4 q5 q6 q7 q8 q9 aF aG
  go_loopw [7] (λsi wr=>∃i:Nat,i<=n/\si= i/\Hid (p.args.all (okR nE false)=(p.args.drop i).all (okR nE false))/\Bw w1 wr)
   (λsi _=>n - (intOf si).toNat)
  case atStart=>exact⟨0,zO,rfl,zH rfl,ag⟩
  exact ay0
 by_cases lq:k=5
 ·subst lq;obtain⟨e1,BM⟩:=zF ((el==0));obtain⟨e2,DX⟩:=zF ((pr==0));have yB:(el !=0)=!e1:=(by rw[<-BM];rfl);have qY:(pr !=0)=!e2:=(by rw[<-DX];rfl);obtain⟨bv,jS⟩:=zF (qm p.cls);have AV:Hid (Rt 116 #[.agg #[ck,ns,nl,sp,(A1,n1,c1),(A2,n2,c2)]] w1 bv):=zH (Lj p.cls _ w1 _ (vJ.below ai) jS);obtain⟨e3,IW⟩:=zF (decide (0<n));have FH:((n:Int)==0)=!e3:=(by rw[<-IW,m9];simp);obtain⟨e4,Uu⟩:=zF ((mn==1));obtain⟨e5,he5⟩:=zF ((mx==1));have hn4:(mn !=1)=!e4:=(by rw[<-Uu];rfl);have hn5:(mx !=1)=!e5:=(by rw[<-he5];rfl);obtain⟨e6,he6⟩:=zF (decide (n<=6));have hn6:decide ((6:Int)<(n:Int))=!e6:=(by rw[<-he6,m9];simp;omega)
  have HF:Hid (R=(e1&&bv&&e2&&e3&&top&&e4&&e5&&e6&&p.args.all (okR nE true))):=zH (by
   rw[<-HR.out,ahl HK,Rl];unfold xh;rw[Xc.out,UF.out,ZZ.out,JU.out,jS,<-BM,<-DX,<-IW,<-Uu,<-he5,<-he6,oM el 0,oM pr 0,oM mn 1,oM mx 1,HN.out];rw[m9];simp only[z7,Bool.true_and,gy];constructor
   ·rintro⟨⟨⟨⟨⟨⟨⟨a1,⟨a2,a3⟩,a4⟩,a5⟩,a6⟩,a7⟩,a8⟩,a9⟩,a10⟩;exact⟨⟨⟨⟨⟨⟨⟨⟨a2,a3⟩,a4⟩,a7⟩,a1⟩,a5⟩,a6⟩,a8⟩,a9,a10⟩
   rintro⟨⟨⟨⟨⟨⟨⟨⟨a2,a3⟩,a4⟩,a7⟩,a1⟩,a5⟩,a6⟩,a8⟩,a9,a10⟩;exact⟨⟨⟨⟨⟨⟨⟨a1,⟨a2,a3⟩,a4⟩,a5⟩,a6⟩,a7⟩,a8⟩,a9⟩,a10⟩)
  clear jS;cases e1
  ·go_wp2_with fail;go_ret;exact⟨by rw[HF.out];first | rfl | simp,ai⟩
  cases bv
  ·exact aaq
  cases e2
  ·exact aaq
  cases e3
  ·exact aaq
  cases top
  ·exact aaq
  cases e4
  ·exact aaq
  cases e5
  ·exact aaq
  cases e6
  ·exact aaq
  have Gl:Hid (R=p.args.all (okR nE true)):=zH (by rw[HF.out];rfl);go_wp2_with fail;refine AV.mono ?_;rintro e w2 ⟨rfl,ag⟩;clear q0 q1 q2 q3 q4 q5 q6 q7 q8 q9 aF aG;obtain⟨q0,q1,q2,q3,q4,q5,q6,q7,q8,q9,aF,aG⟩:=aj (ae aQ ag);go_wp2_with fail;clear q0 q1 q2 q3 q4 q5 q6 q7 q8 q9 aF aG
  go_loopw [7] (λsi wr=>∃i:Nat,i<=n/\si= i/\Hid (p.args.all (okR nE true)=(p.args.drop i).all (okR nE true))/\Bw w1 wr)
   (λsi _=>n - (intOf si).toNat)
  case atStart=>exact⟨0,zO,rfl,zH rfl,ag⟩
  obtain⟨i,hi,rfl,HL,aH⟩:=hrel;obtain⟨q0,q1,q2,q3,q4,q5,q6,q7,q8,q9,aF,aG⟩:=aj (ae aQ aH);by_cases aN:i<n
  ·obtain⟨b,off,px,v0,v1,v2,v3,v4,v5,v6,v7,v8,v9,v10,v11,HX,eG,z0,z1,z2,z3,z4,z5,z6,z7,z8,z9,nZ,og,dO⟩:=(lM.below (ai.seq aH)).DW aN c;have hd:=zT1 (i<n);obtain⟨k3,mn3,J3,el3,ck3,ns3,nl3,sp3,B1,m1,d1,B2,m2,d2,pr3,B,m,d,fJ,bW,acK,Rn,-⟩:=aW eG;simp only[i7,and_true] at fJ;obtain⟨rfl,rfl,rfl,rfl,rfl,rfl,rfl,rfl,rfl,rfl,rfl,rfl⟩:=fJ;obtain⟨v,hv⟩:=zF ((bU px.mn px.mx&&bT nE false px));have HS:=zH (Vy (f:=okR nE true) HX);have jr:Hid (okR nE true px=(v&&!(true&&(decide (J3<1)||decide (3<J3)||!pJ nE px)))):=zH (by unfold okR;rw[hv,Rn]);have HC:Hid (Rt 55 #[.agg (o5 k3 mn3 J3 el3 ck3 ns3 nl3 sp3 B1 m1 d1 B2 m2 d2 pr3 B m d),nE,false] wr v):=zH (by rw[<-hv];exact rZ px (SK HX) false _ wr _ eG);have Ph:=zH eG;clear hv eG bW acK Rn;cases v
   ·go_wp2_with fail;refine HC.mono ?_;rintro e w3 ⟨rfl,az⟩;go_wp2_with fail;go_ret;exact⟨by rw[Gl.out,HL.out,HS.out,jr.out];rfl,ai.seq (aH.seq az)⟩
   go_wp2_with fail;refine HC.mono ?_;rintro e w3 ⟨rfl,az⟩;clear q0 q1 q2 q3 q4 q5 q6 q7 q8 q9 aF aG;obtain⟨q0,q1,q2,q3,q4,q5,q6,q7,q8,q9,aF,aG⟩:=aj (ae aQ (aH.seq az));obtain⟨z0',z1',z2',z3',z4',z5',z6',z7'⟩:=zK8 ((az.cell (p:=⟨_,_,none⟩) (j8 _ _ z0)).trans z0) ((az.cell (p:=⟨_,_,none⟩) (j8 _ _ z1)).trans z1) ((az.cell (p:=⟨_,_,none⟩) (j8 _ _ z2)).trans z2) ((az.cell (p:=⟨_,_,none⟩) (j8 _ _ z3)).trans z3) ((az.cell (p:=⟨_,_,none⟩) (j8 _ _ z4)).trans z4) ((az.cell (p:=⟨_,_,none⟩) (j8 _ _ z5)).trans z5) ((az.cell (p:=⟨_,_,none⟩) (j8 _ _ z6)).trans z6) ((az.cell (p:=⟨_,_,none⟩) (j8 _ _ z7)).trans z7);obtain⟨z8',z9',aIa,aIb⟩:=zK4 ((az.cell (p:=⟨_,_,none⟩) (j8 _ _ z8)).trans z8) ((az.cell (p:=⟨_,_,none⟩) (j8 _ _ z9)).trans z9) ((az.cell (p:=⟨_,_,none⟩) (j8 _ _ nZ)).trans nZ) ((az.cell (p:=⟨_,_,none⟩) (j8 _ _ og)).trans og);obtain⟨g1,lV⟩:=zF (decide (J3<1));obtain⟨g2,qo⟩:=zF (decide (3<J3));have ahx:Hid (okR nE true px=!(g1||g2||!pJ nE px)):=zH (by rw[jr.out,lV,qo];rfl);cases g1
   rotate_left 1
   ·go_wp2_with fail;go_ret;exact⟨by rw[Gl.out,HL.out,HS.out,ahx.out];rfl,ai.seq (aH.seq az)⟩
   cases g2
   rotate_left 1
   ·go_wp2_with fail;go_ret;exact⟨by rw[Gl.out,HL.out,HS.out,ahx.out];rfl,ai.seq (aH.seq az)⟩
   obtain⟨lv,vX⟩:=zF (pJ nE px);have Ee:=zH vX;have as1:Hid (Rt 115 #[.agg (o5 k3 mn3 J3 el3 ck3 ns3 nl3 sp3 B1 m1 d1 B2 m2 d2 pr3 B m d),nE] w3 lv):=zH (Ll nE px _ w3 _ (au.below (au.here _ _ (jK _) Ph) az) vX);clear vX;cases lv
   ·go_wp2_with fail;refine as1.mono ?_;rintro e w4 ⟨rfl,aX⟩;go_wp2_with fail;go_ret;exact⟨by rw[Gl.out,HL.out,HS.out,ahx.out,Ee.out];rfl,ai.seq ((aH.seq az).seq aX)⟩
   go_wp2_with fail;refine as1.mono ?_;rintro e w4 ⟨rfl,aX⟩;go_wp2_with fail;go_roundw
   case rel=>exact⟨i+1,zO,by go_num,zH (by rw[HL.out,HS.out,ahx.out,Ee.out];rfl),(aH.seq az).seq aX⟩
   simp[intOf];omega
  have hd:=zT2 (i<n);have HE:Hid (p.args.drop i=[]):=zH (z14 (by have:=HN.out;omega));go_wp2_with fail;go_ret;exact⟨by rw[Gl.out,HL.out,HE.out];rfl,ai.seq aH⟩
 have HX:Hid (R=false):=zH (by rw[<-HR.out,QR (HK.out ▸ eu) (HK.out ▸ dm) (HK.out ▸ bW) (HK.out ▸ jl) (HK.out ▸ lq)];rfl);have hj1:(k==1)=false:=(by simpa using eu);have hj2:(k==2)=false:=(by simpa using dm);have hj3:(k==3)=false:=(by simpa using bW);have hj4:(k==4)=false:=(by simpa using jl);have hj5:(k==5)=false:=(by simpa using lq);clear eu dm bW jl lq;go_wp2_with fail;go_ret;exact⟨by rw[HX.out];rfl,ai⟩
theorem amO(l:List Nm)(A:Option Addr)(n c:Nat)(w:World)(F:Nat->Prop)(bQ:aY w F 2 dK l A n)(hn:n<6000000000000)(hv:(!l.any oZ)=v):
 Rt 20 #[(A,n,c)] w v:=by subst hv;exact amv l A n c w F bQ hn
theorem afa{v:Nat}(p:aJ)(cs:List Value)(w:World)(F:Nat->Prop)(h:au w F (aZ p) cs)(hv:sW 10 p=v):
 Rt 53 #[.agg cs.toArray,(10:Int)] w v:=by subst hv;exact ae3 10 p cs w F h zO
theorem afb{v:Nat}(p:aJ)(cs:List Value)(w:World)(F:Nat->Prop)(h:au w F (aZ p) cs)(hn:vG p<=1000)(hv:nY p=v):
 Rt 54 #[.agg cs.toArray] w v:=by subst hv;exact ahy p cs w F h hn
theorem acM(nE:Int)(p:aJ)(top:Bool)(cs:List Value)(w:World)(F:Nat->Prop)(h:au w F (aZ p) cs)(hv:(bU p.mn p.mx&&bT nE top p)=v):
 Rt 55 #[.agg cs.toArray,nE,top] w v:=by subst hv;exact acJ nE p top cs w F h
theorem aa9{v:Int}(p:aJ)(cs:List Value)(w:World)(F:Nat->Prop)(h:au w F (aZ p) cs)(hv:dC p=v):
 Rt 16 #[.agg cs.toArray] w v:=by subst hv;exact aa4 p cs w F h
theorem amP(h:l[i]?=x):(l.drop i).any f=(f x||(l.drop (i+1)).any f):=by
 obtain⟨hi,rfl⟩:=z4.1 h;rw[nZ hi,List.any_cons]
theorem acN(elems:List (List Nm))(p:aJ)(cs:List Value)(A9:Option Addr)(n9 c9:Nat)(w:World)(F F9:Nat->Prop)(h:au w F (aZ p) cs)(hE:bM w F9 1 (elems.map nU) A9 n9)(GV:n9<6000000000000):
 Rt 14 #[.agg cs.toArray,(A9,n9,c9)] w (kN elems p):=by
 have bH:=au.here _ _ (jK _) h;have lT:=bM.here hE (Nz _);have Xc:=zH lT;obtain⟨k,mn,mx,el,ck,ns,nl,sp,A1,n1,c1,A2,n2,c2,pr,A,n,c,rfl,hk,-⟩:=aW bH;obtain⟨w1,bI,S1,lY,ai⟩:=zP1 w k mn mx el ck ns nl sp A1 n1 c1 A2 n2 c2 pr A n c;obtain⟨aQ,jG,HK⟩:=zJ3 S1 bH hk;have pR:Hid (n9=elems.length):=zH (by have:=lT.1;rwa [z8] at this);obtain⟨R,hR⟩:=zF (kN elems p);rw[hR];have HR:=zH hR;have q0:=aj S1;clear S1 h bH hk hE lT hR;by_cases xQ:60<n9
 ·have hd:=zT1 ((60:Int)<(n9:Int));have HX:Hid (R=2):=zH (by rw[<-HR.out];exact I8 (.inl (by rw[<-pR.out];exact xQ)));clear xQ;go_enter func14,ntmps14;go_wp2_with fail;go_ret;exact⟨by rw[HX.out];rfl,ai⟩
 have hd:=zT2 ((60:Int)<(n9:Int));have YI:=zH xQ;clear xQ;go_enter func14,ntmps14;go_wp2_with fail;clear q0
 go_loopw [5] (λsi wr=>∃i:Nat,i<=n9/\si= i/\Hid (elems.any badL=(elems.drop i).any badL)/\Bw w1 wr)
  (λsi _=>n9 - (intOf si).toNat)
 case atStart=>exact⟨0,zO,rfl,zH rfl,j9 _ _⟩
 obtain⟨i,hi,rfl,HL,aH⟩:=hrel;have q0:=aj (ae aQ aH);by_cases aN:i<n9
 ·obtain⟨b,off,x,B,m,d,HX,hm,eG,z0,dO⟩:=(Xc.below (ai.seq aH)).Uk aN c9;have jc:=zT1 (i<n9);have Pv:=zH eG.1;have HS:=zH (amP (f:=badL) HX);by_cases ahz:100<m
  ·have sZ:=zT1 ((100:Int)<(m:Int));have HB:Hid (badL x=true):=zH (by unfold badL;rw[<-Pv.out,show decide (100<m)=true by simpa using ahz];rfl);clear ahz eG;go_wp2_with fail;go_ret;have HX:Hid (R=2):=zH (by rw[<-HR.out];exact I8 (.inr (by rw[HL.out,HS.out,HB.out];rfl)));exact⟨by rw[HX.out];rfl,ai.seq aH⟩
  have sZ:=zT2 ((100:Int)<(m:Int));obtain⟨v,hv⟩:=zF ((!x.any oZ));have HB:Hid (badL x=!v):=zH (by unfold badL;rw[<-Pv.out,show decide (100<m)=false by simpa using ahz,<-hv];simp);have HC:Hid (Rt 20 #[(B,m,d)] wr v):=zH (amO x B m d wr _ eG hm hv);clear ahz eG hv;cases v
  ·go_wp2_with fail;refine HC.mono ?_;rintro e w3 ⟨rfl,az⟩;go_wp2_with fail;go_ret;have HX:Hid (R=2):=zH (by rw[<-HR.out];exact I8 (.inr (by rw[HL.out,HS.out,HB.out];rfl)));exact⟨by rw[HX.out];rfl,ai.seq (aH.seq az)⟩
  go_wp2_with fail;refine HC.mono ?_;rintro e w3 ⟨rfl,az⟩;go_wp2_with fail;go_roundw
  case rel=>exact⟨i+1,zO,by go_num,zH (by rw[HL.out,HS.out,HB.out];rfl),aH.seq az⟩
  simp[intOf];omega
 have jc:=zT2 (i<n9);have HAV:Hid (elems.any badL=false):=zH (by rw[HL.out,z14 (by have:=pR.out;omega)];rfl);have qG:Hid (R=if IG p=true then 3 else if (bU p.mn p.mx&&bT elems.length true p)=false then 2 else if p.kind≠5/\200<dC p then 3 else 0):=zH (by rw[<-HR.out];exact acp (by rw[<-pR.out];exact YI) HAV);obtain⟨d,J4⟩:=zF (sW 10 p);obtain⟨m,L8⟩:=zF (nY p);have hbN:=arp p;rw[J4,L8] at hbN;have HBN:=zH hbN;have amQ:Hid (Rt 53 #[.agg (o5 k mn mx el ck ns nl sp A1 n1 c1 A2 n2 c2 pr A n c),(10:Int)] wr d):=zH (afa p _ wr _ (jG.below (ai.seq aH)) J4);have ahA:Hid (¬10<d->∀W,Bw wr W->Rt 54 #[.agg (o5 k mn mx el ck ns nl sp A1 n1 c1 A2 n2 c2 pr A n c)] W m):=zH λhd W hW=>afb p _ W _ (jG.below (ai.seq (aH.seq hW))) (arz (by rw[J4];exact hd)) L8;clear hbN J4 L8;by_cases AP:10<d
 ·have gJ:=zT1 ((10:Int)<(d:Int));have HX:Hid (R=3):=zH (by rw[qG.out,j6];rw[<-HBN.out];simp[AP]);clear AP;go_wp2_with fail;refine amQ.mono ?_;rintro e w3 ⟨rfl,az⟩;go_wp2_with fail;go_ret;exact⟨by rw[HX.out];rfl,ai.seq (aH.seq az)⟩
 have gJ:=zT2 ((10:Int)<(d:Int));replace ahA:=zH (ahA AP);by_cases Xd:40<m
 ·have sZ:=zT1 ((40:Int)<(m:Int));have HX:Hid (R=3):=zH (by rw[qG.out,j6];rw[<-HBN.out];simp[Xd]);clear AP Xd;go_wp2_with fail;refine amQ.mono ?_;rintro e w3 ⟨rfl,az⟩;clear q0;have q0:=aj (ae aQ (aH.seq az));go_wp2_with fail;refine (ahA w3 az).mono ?_;rintro e w4 ⟨rfl,aX⟩;go_wp2_with fail;go_ret;exact⟨by rw[HX.out];rfl,ai.seq (aH.seq (az.seq aX))⟩
 have sZ:=zT2 ((40:Int)<(m:Int));have ZX:Hid (R=if (bU p.mn p.mx&&bT elems.length true p)=false then 2 else if p.kind≠5/\200<dC p then 3 else 0):=zH (by rw[qG.out,j5];rw[<-HBN.out];simp[AP,Xd]);clear AP Xd;obtain⟨fv,lh⟩:=zF ((bU p.mn p.mx&&bT (n9:Int) true p));have AL:Hid (∀W,Bw wr W->Rt 55 #[.agg (o5 k mn mx el ck ns nl sp A1 n1 c1 A2 n2 c2 pr A n c),n9,true] W fv):=zH λW hW=>acM (n9:Int) p true _ W _ (jG.below (ai.seq (aH.seq hW))) lh;have qK:Hid (R=if fv=false then 2 else if p.kind≠5/\200<dC p then 3 else 0):=zH (by rw[ZX.out,<-pR.out,lh]);clear lh;go_wp2_with fail;refine amQ.mono ?_;rintro e w3 ⟨rfl,az⟩;clear q0;have q0:=aj (ae aQ (aH.seq az));go_wp2_with fail;refine (ahA w3 az).mono ?_;rintro e w4 ⟨rfl,aX⟩;have o6:=az.seq aX;clear q0;have q0:=aj (ae aQ (aH.seq o6));go_wp2_with fail;refine (AL w4 o6).mono ?_;rintro e w5 ⟨rfl,bg⟩;have Ob:=o6.seq bg;clear q0;have q0:=aj (ae aQ (aH.seq Ob));cases fv
 ·have HX:Hid (R=2):=zH (by rw[qK.out];rfl);go_wp2_with fail;go_ret;exact⟨by rw[HX.out];rfl,ai.seq (aH.seq Ob)⟩
 by_cases lq:k=5
 ·have hj:(k !=5)=false:=(by simp[lq]);have HX:Hid (R=0):=zH (by rw[qK.out,j5 zP,j5 (by rintro⟨h,_⟩;exact h (HK.trans lq))]);clear lq;go_wp2_with fail;go_ret;exact⟨by rw[HX.out];rfl,ai.seq (aH.seq Ob)⟩
 have hj:(k !=5)=true:=(by simp[lq]);obtain⟨pv,oC⟩:=zF (dC p);have JS:Hid (Rt 16 #[.agg (o5 k mn mx el ck ns nl sp A1 n1 c1 A2 n2 c2 pr A n c)] w5 pv):=zH (aa9 p _ w5 _ (jG.below (ai.seq (aH.seq Ob))) oC);by_cases lN:200<pv
 ·have Ef:decide (200<pv)=true:=(by simpa using lN);have HX:Hid (R=3):=zH (by rw[qK.out,j5 zP,j6 ⟨by rw[HK.out];exact lq,by rw[oC];exact lN⟩]);clear lN oC lq;go_wp2_with fail;refine JS.mono ?_;rintro e w8 ⟨rfl,eX⟩;go_wp2_with fail;go_ret;exact⟨by rw[HX.out];rfl,ai.seq (aH.seq (Ob.seq eX))⟩
 have Ef:decide (200<pv)=false:=(by simpa using lN);have HX:Hid (R=0):=zH (by rw[qK.out,j5 zP,j5 (by rintro⟨_,h⟩;rw[oC] at h;exact lN h)]);clear lN oC lq;go_wp2_with fail;refine JS.mono ?_;rintro e w8 ⟨rfl,eX⟩;go_wp2_with fail;go_ret;exact⟨by rw[HX.out];rfl,ai.seq (aH.seq (Ob.seq eX))⟩
