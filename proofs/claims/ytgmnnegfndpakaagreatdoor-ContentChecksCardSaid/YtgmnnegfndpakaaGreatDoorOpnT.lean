import Derived.Test.YtgmnnegfndpakaaGreatDoorG12
import Derived.Test.YtgmnnegfndpakaaGreatDoorOpnA
import Derived.Test.YtgmnnegfndpakaaGreatDoorCards
import Derived.Test.YtgmnnegfndpakaaGreatDoorTie
import Derived.Lib.LaidTab
set_option maxHeartbeats 20000000
set_option maxRecDepth 100000
namespace Go.Proofs.YtgmnnegfndpakaaGreatDoor
open Go.ChangeShapes Go.WideShapes Go.ChangeAt Go.RowKit
theorem acX{P:Program}{W:World}{x:String×DataW Unit}{rest:List (String×DataW Unit)}(h:laidMet P (x::rest) W):laidMet P rest W:=by
 obtain⟨ps,⟨g,t,cs,fuel,p,q,h1,h2,h3,h4,h5,h6⟩,hn,hc⟩:=h;subst h6;exact⟨q,h5,(List.nodup_append.1 hn).2.1,λb off hb=>hc b off (List.mem_append.2 (.inr hb))⟩
theorem arY:(Tryz.prog.globals[1]?).map (·.type)=some 297:=by kernel_rfl
theorem agZ{W:World}(h:laidMetH Tryz.prog Rows.contentChecksRow.laid W):Tab W:=by
 have h1:laidMet Tryz.prog Rows.contentChecksRow.laid W:=h;exact Lib.tabIs_of_head (t:=297) (e:=230) (n:=20) gTab arY Tryz.underlying297 zK zK zK (acX (acX h1))
theorem ak4{H:Type}{enc:TypeId×Value->H}{P:Program}{f:Func}{s:ChangeSpec}{apart fresh handsOn again:Bool}{W W':World}{args:Array Value}{v:Value}{ds gs:List (DataW H)}{before pa pv:List MemPlace}
 (hW:DataW.Whole enc P f.params.toList s.vars apart W args.toList ds gs before)
 (hres:∀(b:Nat) (sp:Nat->Bool) (hd:Bool),DataW.TrodAll enc P W' b sp hd f.resultTypes.toList (v.resultList f.resultTypes.size) (s.fn H (ds++gs)).results [])
 (wF:∀sp:Nat->Bool,(∀p∈before,sp p.block=true)->DataW.TrodAll enc P W' 0 sp true f.params.toList args.toList (s.fn H (ds++gs)).args pa)
 (ar9:∀sp:Nat->Bool,(∀p∈before,sp p.block=true)->DataW.TrodVars enc P W' sp s.vars (s.fn H (ds++gs)).vars pv)
 (ZC:before=pa++pv) (hb:Bw W W')
 (fQ:∀(j:Nat) (t:TypeId) (r:Value),f.resultTypes[j]?=some t->(v.resultList f.resultTypes.size)[j]?=some r->Value.okWide P W' .any 0 t r):
 s.post enc P f apart fresh handsOn again W args v W':=by
 have aN:∀p∈before,p.block<W.heap.size:=λp hp=>hW.lt p hp
 have hold:∀p∈before,(λb=>decide (b<W.heap.size)) p.block=true:=λp hp=>by simpa using aN p hp
 refine⟨ds,gs,before,[],pa,pv,hW,hres _ _ _,wF _ hold,ar9 _ hold,World.keptBut_mono (λp hp=>⟨hp,?_⟩) (hb.frame (· ∈before)),λ_=>?_⟩
 ·rw[ZC,z12] at hp
  exact Or.inr hp
 ·obtain⟨_,_,_,_,_,hz,hn⟩:=hW
  refine⟨fQ,_,_,([]++pa)++pv,⟨[]++pa,pv,trodAll_append (wF _ (λ_ _=>rfl)) (hres _ _ _),ar9 _ (λ_ _=>rfl),rfl,?_,?_⟩,?_⟩
  ·intro b off hp
   have oO:MemPlace.cell b off∈before:=(by rw[ZC];simpa using hp);rw[hb.frozen (aN _ oO)];exact hz b off oO
  ·intro ha
   have:=hn ha;rw[ZC] at this;simpa using this
  ·intro p hp _
   rw[ZC];simpa using hp
def aAm:List Int:=[0,1,28,2,29,14,24,3,30,22,20,15,25,17,4,8,31,27,13,23,21,19,16,7,26,12,18,6,11,5,10,9]
def aAn:List Int:=[0,1,56,2,57,49,28,3,61,58,42,50,38,29,17,4,62,47,59,36,45,43,51,22,53,39,33,30,24,18,12,5,63,55,48,27,60,41,37,16,46,35,44,21,52,32,23,11,54,26,40,15,34,20,31,10,25,14,19,9,13,8,7,6]
def aJs:Value:=.agg #[.int .i64 0,.int .i64 0,.int .i64 0,.int .i64 0,.int .i64 0,.string ⟨#[]⟩,.string ⟨#[]⟩,.string ⟨#[]⟩,.slice none 0 0,.slice none 0 0,.int .i64 0,.slice none 0 0]
def pzD{H:Type}:DataW H:=.agg [.lit (.int .i64 0),.lit (.int .i64 0),.lit (.int .i64 0),.lit (.int .i64 0),.agg [.lit (.int .i64 0),.agg [.lit (.string []),.lit (.string [])],.lit (.string []),.nil,.nil],.lit (.int .i64 0),.nil]
noncomputable def laidWorld(os:Os)(args:Array Value):World:=
 let set (h:Array Obj) (g:Nat) (k:IntKind) (zs:List Int):Array Obj:=h.modify g λ
  | .cells _ t frozen=>.cells (zs.map λz=>Value.int k z).toArray t frozen
  | o=>o
 { World.holding Tryz.prog os ⟨#[],args,[]⟩ with heap:=set (set (set (World.holding Tryz.prog os ⟨#[],args,[]⟩).heap 1 .u64 Lib.pow10Tab) 2 .u8 aAm) 3 .u8 aAn }
end Go.Proofs.YtgmnnegfndpakaaGreatDoor
