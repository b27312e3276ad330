import Derived.Test.YtgmnnegfndpakaaGreatDoorProg
import Derived.Shelf.Small.Bits
import Derived.Shelf.Small.Strs
import Derived.Shelf.LaysM
import Derived.Ground.Names2Prog
import Derived.Ground.SlgnProg
import Derived.Ground.SlgmProg
import Derived.Shelf.Strconv.Itoa0
import Derived.Shelf.Strconv.Itoa1
import Derived.Shelf.Strconv.Itoa2
import Derived.Shelf.Strconv.Itoa3
import Derived.Shelf.Slices.Clone
import Derived.Shelf.Slices.CompactI
import Derived.Shelf.Slices.CompactS
import Derived.Shelf.Slices.SearchI
import Derived.Shelf.Slices.Cells
import Derived.Shelf.SlicesE.Clone
set_option maxHeartbeats 20000000
set_option maxRecDepth 100000
namespace Go.Proofs
open Go.Shelf Go.Proofs.Tryz
theorem zGA{α:Type}{x:Option α}{a b:α}(h:x=some a)(k:a=b:=by kernel_rfl):x=some b:=h.trans (congrArg some k)
theorem zGAd{p:Prop}(h:p:=by decide):p:=h
def Tryz.aeW:Go.Shelf.Ren:=⟨fun | 106=>177 | 213=>213 | 265=>234 | n=>n,fun | 9=>9 | 3=>3 | n=>n,fun | n=>n⟩
theorem Tryz.arf:Go.Proofs.Lays.n106 prog Tryz.aeW:={
 mixed:=by kernel_rfl
 f106:=zGA func177
 f213:=zGA func213
 f265:=zGA func234
 t3:=underlying3
 a3:=isAgg3
 z3:=sizeOf3
 v3:=zeroValue3
 t9:=underlying9
 a9:=isAgg9
 z9:=sizeOf9
 v9:=zeroValue9 }
open Go.RowKit in
theorem Tryz.strings_Compare(a b:ByteArray)(w:World):
 Calls prog 177 #[.string a,.string b] w λe w'=>e= .returned (.int .i64 (Lib.compareBytes a.data.toList b.data.toList))/\w'=w:=Any.strings_Compare Tryz.arf a b w
theorem zGB{α:Type}{x:Option α}{a b:α}(h:x=some a)(k:a=b:=by kernel_rfl):x=some b:=h.trans (congrArg some k)
theorem zGBd{p:Prop}(h:p:=by decide):p:=h
def Tryz.acQ:Go.Shelf.Ren:=⟨fun | 171=>255 | 243=>260 | 246=>263 | 283=>264 | 284=>265 | 285=>266 | 286=>267 | 129=>190 | 317=>268 | 318=>269 | 319=>270 | 320=>271 | 337=>272 | 338=>273 | n=>n,fun | 3=>3 | 9=>9 | 2=>2 | 4=>4 | 171=>291 | 0=>0 | 53=>230 | 37=>173 | 5=>5 | 173=>293 | 212=>297 | 51=>228 | 20=>20 | 213=>298 | 46=>174 | 232=>299 | 233=>300 | n=>n,fun | 17=>1 | 18=>2 | 19=>3 | n=>n⟩
theorem Tryz.laysM171:Go.Proofs.LaysM.n171 prog Tryz.acQ:={
 mixed:=by kernel_rfl
 f129:=zGB func190
 f171:=zGB func255
 f243:=zGB func260
 f246:=zGB func263
 f283:=zGB func264
 f284:=zGB func265
 f285:=zGB func266
 f286:=zGB func267
 f317:=zGB func268
 f318:=zGB func269
 f319:=zGB func270
 f320:=zGB func271
 f337:=zGB func272
 f338:=zGB func273
 t0:=underlying0
 a0:=isAgg0
 z0:=sizeOf0
 v0:=zeroValue0
 t2:=underlying2
 a2:=isAgg2
 z2:=sizeOf2
 v2:=zeroValue2
 t3:=underlying3
 a3:=isAgg3
 z3:=sizeOf3
 v3:=zeroValue3
 t4:=underlying4
 a4:=isAgg4
 z4:=sizeOf4
 v4:=zeroValue4
 t5:=underlying5
 a5:=isAgg5
 z5:=sizeOf5
 v5:=zeroValue5
 t9:=underlying9
 a9:=isAgg9
 z9:=sizeOf9
 v9:=zeroValue9
 t20:=underlying20
 a20:=isAgg20
 z20:=sizeOf20
 v20:=zeroValue20
 t37:=underlying173
 a37:=isAgg173
 z37:=sizeOf173
 v37:=zeroValue173
 t46:=underlying174
 a46:=isAgg174
 z46:=sizeOf174
 v46:=zeroValue174
 t51:=underlying228
 a51:=isAgg228
 z51:=sizeOf228
 v51:=zeroValue228
 t53:=underlying230
 a53:=isAgg230
 z53:=sizeOf230
 v53:=zeroValue230
 t171:=underlying291
 a171:=isAgg291
 z171:=sizeOf291
 v171:=zeroValue291
 t173:=underlying293
 a173:=isAgg293
 z173:=sizeOf293
 v173:=zeroValue293
 t212:=underlying297
 a212:=isAgg297
 z212:=sizeOf297
 v212:=zeroValue297
 t213:=underlying298
 a213:=isAgg298
 z213:=sizeOf298
 t232:=underlying299
 a232:=isAgg299
 z232:=sizeOf299
 v232:=zeroValue299
 t233:=underlying300
 a233:=isAgg300
 z233:=sizeOf300
 v233:=zeroValue300
 g17:=by kernel_rfl
 g18:=by kernel_rfl
 g19:=by kernel_rfl
 i0:=by kernel_rfl
 i2:=by kernel_rfl
 i3:=by kernel_rfl
 i4:=by kernel_rfl
 i5:=by kernel_rfl
 i9:=by kernel_rfl
 i20:=by kernel_rfl
 i37:=by kernel_rfl
 i46:=by kernel_rfl
 i51:=by kernel_rfl
 i53:=by kernel_rfl
 i171:=by kernel_rfl
 i173:=by kernel_rfl
 i212:=by kernel_rfl
 i232:=by kernel_rfl
 i233:=by kernel_rfl
 m17:=by kernel_rfl
 m18:=by kernel_rfl
 m19:=by kernel_rfl }
open Go.RowKit Go.Sort Go.Lib in
theorem Tryz.strconv_Itoa(n:Int)(h0: -9223372036854775808<=n)(h1:n<=9223372036854775807)(w:World)(aBE:Lib.TabIs prog w "internal/strconv.uint64pow10" .u64 Lib.pow10Tab):
 Calls prog 255 #[.int .i64 n] w λe w'=>e= .returned (.string ⟨(Lib.itoa n).toArray⟩)/\∃k os,w'=grow (w.drewN k) os:=Any.strconv_Itoa Tryz.laysM171 n h0 h1 w aBE
theorem zGC{α:Type}{x:Option α}{a b:α}(h:x=some a)(k:a=b:=by kernel_rfl):x=some b:=h.trans (congrArg some k)
theorem zGCd{p:Prop}(h:p:=by decide):p:=h
def Tryz.aa5:Go.Shelf.Ren:=⟨fun | 15=>210 | n=>n,fun | 22=>58 | 3=>3 | 4=>4 | n=>n,fun | n=>n⟩
theorem Tryz.laysNm215:Go.Proofs.Lays2.n15 prog Tryz.aa5:={
 mixed:=by kernel_rfl
 f15:=zGC func210
 t3:=underlying3
 a3:=isAgg3
 z3:=sizeOf3
 v3:=zeroValue3
 t4:=underlying4
 a4:=isAgg4
 z4:=sizeOf4
 v4:=zeroValue4
 t22:=underlying58
 a22:=isAgg58
 z22:=sizeOf58
 v22:=zeroValue58
 i3:=by kernel_rfl }
open Go.RowKit Go.Lib in
theorem Tryz.slices_Clone_int_zero(a:Addr)(c:Nat)(w:World):
 Calls prog 210 #[.slice (some a) 0 c] w λe w'=>∃v',e= .returned v'/\w'.ownsRow w.heap.size 3 1 v' 0 []/\v'≠.slice none 0 0/\Below w.heap.size w w':=Any.slices_Clone_int_zero Tryz.laysNm215 a c w
def Tryz.aa6:Go.Shelf.Ren:=⟨fun | 20=>85 | n=>n,fun | 22=>58 | 3=>3 | 4=>4 | 0=>0 | n=>n,fun | n=>n⟩
theorem Tryz.Zy:Go.Proofs.Lays2.n20 prog Tryz.aa6:={
 mixed:=by kernel_rfl
 f20:=zGC func85
 t0:=underlying0
 a0:=isAgg0
 z0:=sizeOf0
 v0:=zeroValue0
 t3:=underlying3
 a3:=isAgg3
 z3:=sizeOf3
 v3:=zeroValue3
 t4:=underlying4
 a4:=isAgg4
 z4:=sizeOf4
 v4:=zeroValue4
 t22:=underlying58
 a22:=isAgg58
 z22:=sizeOf58
 v22:=zeroValue58
 i3:=by kernel_rfl }
open Go.RowKit Go.Lib Go.Sort in
theorem Tryz.slices_Compact_int(blk off cap:Nat)(zs:List Int)(w:World)(hH:Holds (Value.int .i64) w blk off zs.toArray)(bY:zs.length<=9223372036854775807)(Yw:zs.length<=cap):
 Calls prog 85 #[.slice (some ⟨blk,off,none⟩) zs.length cap] w λe w'=>e= .returned (.slice (some ⟨blk,off,none⟩) (Lib.compact zs).length cap)/\∃q,w'=putRow (Value.int .i64) (Sort.ahead w q) blk off (Lib.compact zs++List.replicate (zs.length - (Lib.compact zs).length) 0).toArray:=Any.slices_Compact_int Tryz.Zy blk off cap zs w hH bY Yw
open Go.RowKit Go.Lib Go.Sort in
theorem Tryz.slices_Compact_int_empty(a:Option Addr)(cap:Nat)(w:World):
 Calls prog 85 #[.slice a 0 cap] w λe w'=>e= .returned (.slice a 0 cap)/\w'=w:=Any.slices_Compact_int_empty Tryz.Zy a cap w
def Tryz.lays194_ren:Go.Shelf.Ren:=⟨fun | 194=>123 | n=>n,fun | 31=>47 | 9=>9 | 3=>3 | 4=>4 | 0=>0 | n=>n,fun | n=>n⟩
theorem Tryz.lays194:Go.Proofs.Lays.n194 prog Tryz.lays194_ren:={
 mixed:=by kernel_rfl
 f194:=zGC func123
 t0:=underlying0
 a0:=isAgg0
 z0:=sizeOf0
 v0:=zeroValue0
 t3:=underlying3
 a3:=isAgg3
 z3:=sizeOf3
 v3:=zeroValue3
 t4:=underlying4
 a4:=isAgg4
 z4:=sizeOf4
 v4:=zeroValue4
 t9:=underlying9
 a9:=isAgg9
 z9:=sizeOf9
 v9:=zeroValue9
 t31:=underlying47
 a31:=isAgg47
 z31:=sizeOf47
 v31:=zeroValue47 }
open Go.RowKit Go.Lib Go.Sort in
theorem Tryz.slices_Compact_string(blk off cap:Nat)(zs:List (List UInt8))(w:World)(hH:Holds encStr w blk off zs.toArray)(bY:zs.length<=9223372036854775807)(Yw:zs.length<=cap):
 Calls prog 123 #[.slice (some ⟨blk,off,none⟩) zs.length cap] w λe w'=>e= .returned (.slice (some ⟨blk,off,none⟩) (Lib.compact zs).length cap)/\∃q,w'=putRow encStr (Sort.ahead w q) blk off (Lib.compact zs++List.replicate (zs.length - (Lib.compact zs).length) []).toArray:=Any.slices_Compact_string Tryz.lays194 blk off cap zs w hH bY Yw
open Go.RowKit Go.Lib Go.Sort in
theorem Tryz.slices_Compact_string_empty(a:Option Addr)(cap:Nat)(w:World):
 Calls prog 123 #[.slice a 0 cap] w λe w'=>e= .returned (.slice a 0 cap)/\w'=w:=Any.slices_Compact_string_empty Tryz.lays194 a cap w
def Tryz.Qr:Go.Shelf.Ren:=⟨fun | 41=>210 | n=>n,fun | 22=>58 | 23=>3 | 4=>4 | n=>n,fun | n=>n⟩
theorem Tryz.JJ:Go.Proofs.SlLaysE0.n41 prog Tryz.Qr:={
 mixed:=by kernel_rfl
 f41:=⟨Tryz.f210.name,zGCd,zGC func210⟩
 t4:=underlying4
 a4:=isAgg4
 z4:=sizeOf4
 v4:=zeroValue4
 t22:=underlying58
 a22:=isAgg58
 z22:=sizeOf58
 v22:=zeroValue58 }
open Go.RowKit Go.Lib in
theorem Tryz.slices_Clone(i0:TypeInfo)(z:Value)(size bytes:Nat)(hi:prog.info? 3=some i0)(QG:i0.zero=some z)(xm:i0.size=size)(xq:i0.bytes=bytes)(ry:z.cells.size=size)(bY:0<size)(z23:∀w,(Go.sizeOf 3).run prog w= .ok size w)(b off n c:Nat)(news:List Value)(w:World)(hl:news.length=n*size)(hn:n<=maxLen)(xQ:n*bytes<=140737488355328)(hc:∀j u,news[j]?=some u->w.cell? ⟨b,off+j,none⟩=some u)(h1:∀u∈news,u.oneCell'=true):
 Calls prog 210 #[.slice (some ⟨b,off,none⟩) n c] w λe w'=>∃v',e= .returned v'/\w'.ownsRow w.heap.size 3 size v' n news/\v'≠.slice none 0 0/\Below w.heap.size w w':=AnyE.slices_Clone Tryz.JJ i0 z size bytes hi QG xm xq ry bY z23 b off n c news w hl hn xQ hc h1
open Go.RowKit Go.Lib in
theorem Tryz.slices_Clone_nil(n c:Nat)(w:World):
 Calls prog 210 #[.slice none n c] w λe w'=>e= .returned (.slice none 0 0)/\w'=w:=AnyE.slices_Clone_nil Tryz.JJ n c w
end Go.Proofs
