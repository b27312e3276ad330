import Derived.Shelf.Small.Bits
import Derived.Shelf.Small.Strs
import Derived.Shelf.LaysM
import Derived.Ground.Names2Prog
import Derived.Ground.SlgnProg
import Derived.Ground.SlgmProg
import Derived.Test.YtgmnnegfndpakaaGreatDoorProg
set_option maxHeartbeats 20000000
set_option maxRecDepth 100000
namespace Go.Proofs
open Go.Shelf Tryz
theorem zGA{α:Type}{x:Option α}{a b:α}(h:x=some a)(k:a=b:=by kernel_rfl):x=some b:=h.trans (congrArg some k)
theorem zGAd{p:Prop}(h:p:=by decide):p:=h
def Tryz.aeW:Go.Shelf.Ren:=⟨fun | 106=>177 | 213=>213 | 265=>234 | n=>n,fun | 9=>9 | 3=>3 | n=>n,fun | n=>n⟩
theorem Tryz.arf:Go.Proofs.Lays.n106 prog Tryz.aeW:={
 mixed:=by kernel_rfl
 f106:=zGA func177
 f213:=zGA func213
 f265:=zGA func234
 t3:=underlying3
 a3:=isAgg3
 z3:=sizeOf3
 v3:=zeroValue3
 t9:=underlying9
 a9:=isAgg9
 z9:=sizeOf9
 v9:=zeroValue9 }
open Go.RowKit in
theorem Tryz.strings_Compare(a b:ByteArray)(w:World):
 Calls prog 177 #[.string a,.string b] w λe w'=>e= .returned (.int .i64 (Lib.compareBytes a.data.toList b.data.toList))/\w'=w:=Any.strings_Compare Tryz.arf a b w
end Go.Proofs
