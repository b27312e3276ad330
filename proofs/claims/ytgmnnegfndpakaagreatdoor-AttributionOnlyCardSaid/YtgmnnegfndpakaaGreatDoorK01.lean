import Derived.Test.YtgmnnegfndpakaaGreatDoorProg
import Derived.Shelf.SlIter.Nil
import Derived.Shelf.SortM.Plain
import Derived.Shelf.SortM.SortNone
import Derived.Shelf.SlSortCmp.NoneTotal
import Derived.Shelf.SlSortCmp.WholeK
import Derived.Ground.GgzProg
import Derived.Ground.SlgmProg
import Derived.Ground.SlsfProg
import Derived.Shelf.Small.Bits
import Derived.Shelf.Small.Strs
import Derived.Shelf.LaysM
import Derived.Ground.Names2Prog
import Derived.Ground.SlgnProg
set_option maxHeartbeats 20000000
set_option maxRecDepth 100000
namespace Go.Proofs
open Go.Shelf Go.Proofs.Tryz
theorem zGL{α:Type}{x:Option α}{a b:α}(h:x=some a)(k:a=b:=by kernel_rfl):x=some b:=h.trans (congrArg some k)
theorem zGLd{p:Prop}(h:p:=by decide):p:=h
def Tryz.Xu:Go.Shelf.Ren:=⟨fun | 7=>247 | 10=>253 | n=>n,fun | 23=>115 | 26=>9 | 3=>4 | 28=>278 | 0=>0 | 27=>277 | 33=>177 | 4=>4 | n=>n,fun | n=>n⟩
theorem Tryz.akq:Go.Proofs.SlLaysZ.n7 prog Tryz.Xu:={
 mixed:=by kernel_rfl
 f7:=⟨Tryz.f247.name,zGLd,zGL func247⟩
 f10:=⟨Tryz.f253.name,zGLd,zGL func253⟩
 t0:=underlying0
 a0:=isAgg0
 z0:=sizeOf0
 v0:=zeroValue0
 t4:=underlying4
 a4:=isAgg4
 z4:=sizeOf4
 v4:=zeroValue4
 t23:=underlying115
 a23:=isAgg115
 z23:=sizeOf115
 v23:=zeroValue115
 t26:=underlying9
 a26:=isAgg9
 z26:=sizeOf9
 v26:=zeroValue9
 t27:=underlying277
 a27:=isAgg277
 z27:=sizeOf277
 v27:=zeroValue277
 t28:=underlying278
 a28:=isAgg278
 z28:=sizeOf278
 v28:=zeroValue278
 t33:=underlying177
 a33:=isAgg177
 z33:=sizeOf177
 v33:=zeroValue177 }
def Tryz.RH:Go.Shelf.Ren:=⟨fun | 6=>246 | 8=>252 | 9=>122 | 11=>259 | 13=>148 | 12=>165 | 23=>189 | 24=>190 | 14=>201 | 15=>202 | 16=>203 | 17=>204 | 18=>205 | 19=>206 | 20=>207 | 21=>208 | 22=>209 | 25=>229 | 26=>218 | 27=>219 | 28=>230 | 29=>231 | 30=>232 | 31=>243 | n=>n,fun | 26=>9 | 28=>278 | 24=>47 | 0=>0 | 3=>3 | 37=>174 | 48=>228 | 50=>230 | 4=>4 | 40=>221 | 39=>220 | 45=>127 | 5=>5 | 9=>9 | 51=>251 | 55=>255 | 57=>269 | 58=>82 | 33=>177 | n=>n,fun | n=>n⟩
theorem Tryz.am3:Go.Proofs.SlLaysZ.n6 prog Tryz.RH:={
 mixed:=by kernel_rfl
 f6:=⟨Tryz.f246.name,zGLd,zGL func246⟩
 f8:=⟨Tryz.f252.name,zGLd,zGL func252⟩
 f11:=⟨Tryz.f259.name,zGLd,zGL func259⟩
 t0:=underlying0
 a0:=isAgg0
 z0:=sizeOf0
 v0:=zeroValue0
 t24:=underlying47
 a24:=isAgg47
 z24:=sizeOf47
 v24:=zeroValue47
 t26:=underlying9
 a26:=isAgg9
 z26:=sizeOf9
 v26:=zeroValue9
 t28:=underlying278
 a28:=isAgg278
 z28:=sizeOf278
 v28:=zeroValue278
 i26:=by kernel_rfl }
def Tryz.afe:Go.Shelf.Ren:=⟨fun | 6=>122 | 8=>148 | 9=>165 | 19=>189 | 20=>190 | 21=>201 | 22=>202 | 23=>203 | 24=>204 | 25=>205 | 26=>206 | 27=>207 | 28=>208 | 29=>209 | 36=>229 | 31=>218 | 32=>219 | 37=>230 | 38=>231 | 39=>232 | 41=>243 | n=>n,fun | 27=>47 | 29=>9 | 3=>3 | 32=>174 | 26=>47 | 0=>0 | 44=>228 | 46=>230 | 4=>4 | 36=>221 | 35=>220 | 41=>127 | 5=>5 | 9=>9 | 53=>251 | 57=>255 | 63=>269 | 64=>82 | n=>n,fun | n=>n⟩
theorem Tryz.agc:Go.Proofs.SlLaysM.n6 prog Tryz.afe:={
 mixed:=by kernel_rfl
 f6:=⟨Tryz.f122.name,zGLd,zGL func122⟩
 f8:=zGL func148
 f9:=⟨Tryz.f165.name,zGLd,zGL func165⟩
 f19:=zGL func189
 f20:=zGL func190
 f21:=⟨Tryz.f201.name,zGLd,zGL func201⟩
 f22:=⟨Tryz.f202.name,zGLd,zGL func202⟩
 f23:=⟨Tryz.f203.name,zGLd,zGL func203⟩
 f24:=⟨Tryz.f204.name,zGLd,zGL func204⟩
 f25:=⟨Tryz.f205.name,zGLd,zGL func205⟩
 f26:=⟨Tryz.f206.name,zGLd,zGL func206⟩
 f27:=⟨Tryz.f207.name,zGLd,zGL func207⟩
 f28:=⟨Tryz.f208.name,zGLd,zGL func208⟩
 f29:=⟨Tryz.f209.name,zGLd,zGL func209⟩
 f31:=zGL func218
 f32:=zGL func219
 f36:=⟨Tryz.f229.name,zGLd,zGL func229⟩
 f37:=⟨Tryz.f230.name,zGLd,zGL func230⟩
 f38:=⟨Tryz.f231.name,zGLd,zGL func231⟩
 f39:=⟨Tryz.f232.name,zGLd,zGL func232⟩
 f41:=⟨Tryz.f243.name,zGLd,zGL func243⟩
 t0:=underlying0
 a0:=isAgg0
 z0:=sizeOf0
 v0:=zeroValue0
 t3:=underlying3
 a3:=isAgg3
 z3:=sizeOf3
 v3:=zeroValue3
 t4:=underlying4
 a4:=isAgg4
 z4:=sizeOf4
 v4:=zeroValue4
 t5:=underlying5
 a5:=isAgg5
 z5:=sizeOf5
 v5:=zeroValue5
 t9:=underlying9
 a9:=isAgg9
 z9:=sizeOf9
 v9:=zeroValue9
 t26:=underlying47
 a26:=isAgg47
 z26:=sizeOf47
 v26:=zeroValue47
 t27:=underlying47
 a27:=isAgg47
 z27:=sizeOf47
 v27:=zeroValue47
 t29:=underlying9
 a29:=isAgg9
 z29:=sizeOf9
 v29:=zeroValue9
 t32:=underlying174
 a32:=isAgg174
 z32:=sizeOf174
 v32:=zeroValue174
 t35:=underlying220
 a35:=isAgg220
 z35:=sizeOf220
 v35:=zeroValue220
 t36:=underlying221
 a36:=isAgg221
 z36:=sizeOf221
 v36:=zeroValue221
 t41:=underlying127
 a41:=isAgg127
 z41:=sizeOf127
 v41:=zeroValue127
 t44:=underlying228
 a44:=isAgg228
 z44:=sizeOf228
 v44:=zeroValue228
 t46:=underlying230
 a46:=isAgg230
 z46:=sizeOf230
 v46:=zeroValue230
 t53:=underlying251
 a53:=isAgg251
 z53:=sizeOf251
 v53:=zeroValue251
 t57:=underlying255
 a57:=isAgg255
 z57:=sizeOf255
 v57:=zeroValue255
 t63:=underlying269
 a63:=isAgg269
 z63:=sizeOf269
 v63:=zeroValue269
 t64:=underlying82
 a64:=isAgg82
 z64:=sizeOf82
 v64:=zeroValue82 }
def Tryz.ahF:Go.Shelf.Ren:=⟨fun | 6=>119 | 15=>148 | 14=>164 | 28=>189 | 29=>190 | 20=>193 | 21=>194 | 22=>195 | 23=>196 | 24=>197 | 25=>198 | 26=>199 | 27=>200 | 46=>226 | 47=>218 | 48=>219 | 49=>227 | 50=>228 | 57=>242 | n=>n,fun | 22=>37 | 24=>23 | 25=>163 | 3=>3 | 39=>174 | 0=>0 | 53=>228 | 55=>230 | 4=>4 | 46=>221 | 45=>220 | 50=>127 | 5=>5 | 9=>9 | 66=>251 | 70=>255 | 76=>269 | 77=>82 | n=>n,fun | n=>n⟩
theorem Tryz.Xv:Go.Proofs.SlLaysF0.n6 prog Tryz.ahF:={
 mixed:=by kernel_rfl
 f6:=⟨Tryz.f119.name,zGLd,zGL func119⟩
 f14:=⟨Tryz.f164.name,zGLd,zGL func164⟩
 f15:=zGL func148
 f20:=⟨Tryz.f193.name,zGLd,zGL func193⟩
 f21:=⟨Tryz.f194.name,zGLd,zGL func194⟩
 f22:=⟨Tryz.f195.name,zGLd,zGL func195⟩
 f23:=⟨Tryz.f196.name,zGLd,zGL func196⟩
 f24:=⟨Tryz.f197.name,zGLd,zGL func197⟩
 f25:=⟨Tryz.f198.name,zGLd,zGL func198⟩
 f26:=⟨Tryz.f199.name,zGLd,zGL func199⟩
 f27:=⟨Tryz.f200.name,zGLd,zGL func200⟩
 f28:=zGL func189
 f29:=zGL func190
 f46:=⟨Tryz.f226.name,zGLd,zGL func226⟩
 f47:=zGL func218
 f48:=zGL func219
 f49:=⟨Tryz.f227.name,zGLd,zGL func227⟩
 f50:=⟨Tryz.f228.name,zGLd,zGL func228⟩
 f57:=⟨Tryz.f242.name,zGLd,zGL func242⟩
 t0:=underlying0
 a0:=isAgg0
 z0:=sizeOf0
 v0:=zeroValue0
 t3:=underlying3
 a3:=isAgg3
 z3:=sizeOf3
 v3:=zeroValue3
 t4:=underlying4
 a4:=isAgg4
 z4:=sizeOf4
 v4:=zeroValue4
 t5:=underlying5
 a5:=isAgg5
 z5:=sizeOf5
 v5:=zeroValue5
 t9:=underlying9
 a9:=isAgg9
 z9:=sizeOf9
 v9:=zeroValue9
 t22:=underlying37
 a22:=isAgg37
 z22:=sizeOf37
 v22:=zeroValue37
 t25:=underlying163
 a25:=isAgg163
 z25:=sizeOf163
 v25:=zeroValue163
 t39:=underlying174
 a39:=isAgg174
 z39:=sizeOf174
 v39:=zeroValue174
 t45:=underlying220
 a45:=isAgg220
 z45:=sizeOf220
 v45:=zeroValue220
 t46:=underlying221
 a46:=isAgg221
 z46:=sizeOf221
 v46:=zeroValue221
 t50:=underlying127
 a50:=isAgg127
 z50:=sizeOf127
 v50:=zeroValue127
 t53:=underlying228
 a53:=isAgg228
 z53:=sizeOf228
 v53:=zeroValue228
 t55:=underlying230
 a55:=isAgg230
 z55:=sizeOf230
 v55:=zeroValue230
 t66:=underlying251
 a66:=isAgg251
 z66:=sizeOf251
 v66:=zeroValue251
 t70:=underlying255
 a70:=isAgg255
 z70:=sizeOf255
 v70:=zeroValue255
 t76:=underlying269
 a76:=isAgg269
 z76:=sizeOf269
 v76:=zeroValue269
 t77:=underlying82
 a77:=isAgg82
 z77:=sizeOf82
 v77:=zeroValue82 }
end Go.Proofs
namespace Go.Proofs
open Go.RowKit Go.Maps Go.Sort Go.Shelf Go.Proofs.Tryz
theorem Tryz.arC(m:Nat):AnyZ.SortsIn prog Tryz.RH Fence.wide m:=
 ⟨λblk off cap ss W hH hblk bY=>callsIn_wide.2 (AnyM.slices_Sort_string Tryz.agc blk off cap ss W hH hblk bY),
  λp cap W=>callsIn_wide.2 (AnyM.slices_Sort_string_none Tryz.agc p cap W)⟩
theorem Tryz.acY(mb:Option Nat)(W:World):CallsIn Fence.wide 5 prog 247 #[.map mb] W λe w'=>e= .returned (.func (.func 253) #[] #[.pointer (some ⟨W.heap.size,0,none⟩)])/\w'=W.alloc (.cells #[.map mb] 115):=
 AnyZ.keys_in Tryz.akq Fence.wide 5 trivial rfl mb W
theorem Tryz.Jg{H:Type}(b nn:Nat)(D0:DataW H)(R:Value->Option (DataW H×List MemPlace))(w:World)(dV:w.ownsMap prog 9 R b nn D0)(aBI:Maps.size D0<=maxLen)(avn:Maps.size D0*16<=140737488355328):
 CallsIn Fence.wide 5 prog 246 #[.func (.func 253) #[] #[.pointer (some ⟨w.heap.size,0,none⟩)]] (w.alloc (.cells #[.map (some b)] 115)) λe w'=>∃(v:Value) (ss:List (List UInt8)),e= .returned v/\ss.Perm (strKeys D0)/\
  w'.ownsRow (w.alloc (.cells #[.map (some b)] 115)).heap.size 9 1 v ss.length ((ss.mergeSort (λx y=>decide (x<=y))).map encStr)/\(v= .slice none 0 0↔ss=[])/\Below (w.alloc (.cells #[.map (some b)] 115)).heap.size (w.alloc (.cells #[.map (some b)] 115)) w':=by
 have jA:=dV.lt
 have yQ:SeqGives Fence.wide 2 prog 253 #[.pointer (some ⟨w.heap.size,0,none⟩)] encStr (λss=>ss.Perm (strKeys D0)) (Maps.size D0) (w.alloc (.cells #[.map (some b)] 115)):=
  AnyZ.keys_gives (ρ:=Tryz.Xu) { Tryz.akq with } Fence.wide _ trivial rfl (by omega) w.heap.size b nn D0 _ (by simp) (by simp) (by
   obtain⟨es,clock,hb,Ft,hs,hD⟩:=dV
   exact⟨es,clock,(Below.heap_alloc _ _ b jA).trans hb,Ft,hs,hD⟩)
 exact AnyZ.sorted_in Tryz.am3 Fence.wide 5 trivial trivial trivial trivial rfl (by omega) (Tryz.arC _) (enters_of func122 (by kernel_rfl) rfl) 253 #[.pointer (some ⟨w.heap.size,0,none⟩)] trivial (enters_of func253 (by kernel_rfl) rfl) _ _ aBI avn _ yQ
end Go.Proofs
namespace Go.Proofs
open Go.Shelf Go.Proofs.Tryz
theorem zGD{α:Type}{x:Option α}{a b:α}(h:x=some a)(k:a=b:=by kernel_rfl):x=some b:=h.trans (congrArg some k)
theorem zGDd{p:Prop}(h:p:=by decide):p:=h
def Tryz.VM:Go.Shelf.Ren:=⟨fun | 5=>84 | 8=>148 | 7=>147 | 19=>189 | 20=>190 | 10=>180 | 11=>181 | 12=>182 | 13=>183 | 14=>184 | 15=>185 | 16=>186 | 17=>187 | 18=>188 | 30=>217 | 31=>218 | 32=>219 | 33=>220 | 34=>221 | 35=>222 | 40=>240 | n=>n,fun | 23=>58 | 25=>3 | 3=>3 | 32=>174 | 22=>58 | 0=>0 | 44=>228 | 46=>230 | 4=>4 | 36=>221 | 35=>220 | 41=>127 | 5=>5 | 9=>9 | 53=>251 | 57=>255 | 63=>269 | 64=>82 | n=>n,fun | n=>n⟩
theorem Tryz.RV:Go.Proofs.SlLaysM.n5 prog Tryz.VM:={
 mixed:=by kernel_rfl
 f5:=⟨Tryz.f84.name,zGDd,zGD func84⟩
 f7:=⟨Tryz.f147.name,zGDd,zGD func147⟩
 f8:=zGD func148
 f10:=⟨Tryz.f180.name,zGDd,zGD func180⟩
 f11:=⟨Tryz.f181.name,zGDd,zGD func181⟩
 f12:=⟨Tryz.f182.name,zGDd,zGD func182⟩
 f13:=⟨Tryz.f183.name,zGDd,zGD func183⟩
 f14:=⟨Tryz.f184.name,zGDd,zGD func184⟩
 f15:=⟨Tryz.f185.name,zGDd,zGD func185⟩
 f16:=⟨Tryz.f186.name,zGDd,zGD func186⟩
 f17:=⟨Tryz.f187.name,zGDd,zGD func187⟩
 f18:=⟨Tryz.f188.name,zGDd,zGD func188⟩
 f19:=zGD func189
 f20:=zGD func190
 f30:=⟨Tryz.f217.name,zGDd,zGD func217⟩
 f31:=zGD func218
 f32:=zGD func219
 f33:=⟨Tryz.f220.name,zGDd,zGD func220⟩
 f34:=⟨Tryz.f221.name,zGDd,zGD func221⟩
 f35:=⟨Tryz.f222.name,zGDd,zGD func222⟩
 f40:=⟨Tryz.f240.name,zGDd,zGD func240⟩
 t0:=underlying0
 a0:=isAgg0
 z0:=sizeOf0
 v0:=zeroValue0
 t3:=underlying3
 a3:=isAgg3
 z3:=sizeOf3
 v3:=zeroValue3
 t4:=underlying4
 a4:=isAgg4
 z4:=sizeOf4
 v4:=zeroValue4
 t5:=underlying5
 a5:=isAgg5
 z5:=sizeOf5
 v5:=zeroValue5
 t9:=underlying9
 a9:=isAgg9
 z9:=sizeOf9
 v9:=zeroValue9
 t22:=underlying58
 a22:=isAgg58
 z22:=sizeOf58
 v22:=zeroValue58
 t23:=underlying58
 a23:=isAgg58
 z23:=sizeOf58
 v23:=zeroValue58
 t25:=underlying3
 a25:=isAgg3
 z25:=sizeOf3
 v25:=zeroValue3
 t32:=underlying174
 a32:=isAgg174
 z32:=sizeOf174
 v32:=zeroValue174
 t35:=underlying220
 a35:=isAgg220
 z35:=sizeOf220
 v35:=zeroValue220
 t36:=underlying221
 a36:=isAgg221
 z36:=sizeOf221
 v36:=zeroValue221
 t41:=underlying127
 a41:=isAgg127
 z41:=sizeOf127
 v41:=zeroValue127
 t44:=underlying228
 a44:=isAgg228
 z44:=sizeOf228
 v44:=zeroValue228
 t46:=underlying230
 a46:=isAgg230
 z46:=sizeOf230
 v46:=zeroValue230
 t53:=underlying251
 a53:=isAgg251
 z53:=sizeOf251
 v53:=zeroValue251
 t57:=underlying255
 a57:=isAgg255
 z57:=sizeOf255
 v57:=zeroValue255
 t63:=underlying269
 a63:=isAgg269
 z63:=sizeOf269
 v63:=zeroValue269
 t64:=underlying82
 a64:=isAgg82
 z64:=sizeOf82
 v64:=zeroValue82 }
open Go.Sort Go.RowKit in
theorem Tryz.slices_Sort_int(blk off cap:Nat)(zs:List Int)(w:World)(hH:Holds (Value.int .i64) w blk off zs.toArray)(hblk:blk<w.heap.size)(bY:zs.length<4611686018427387904):
 Calls prog 84 #[.slice (some ⟨blk,off,none⟩) zs.length cap] w λe w'=>
  e= .returned (.tuple #[])/\∃n os,w'=grow (putRow (Value.int .i64) (Sort.ahead w n) blk off (zs.mergeSort λx y=>decide (x<=y)).toArray) os:=AnyM.slices_Sort_int Tryz.RV blk off cap zs w hH hblk bY
def Tryz.Uc:Go.Shelf.Ren:=⟨fun | 6=>122 | 8=>148 | 9=>165 | 19=>189 | 20=>190 | 21=>201 | 22=>202 | 23=>203 | 24=>204 | 25=>205 | 26=>206 | 27=>207 | 28=>208 | 29=>209 | 36=>229 | 31=>218 | 32=>219 | 37=>230 | 38=>231 | 39=>232 | 41=>243 | n=>n,fun | 27=>47 | 29=>9 | 3=>3 | 32=>174 | 26=>47 | 0=>0 | 44=>228 | 46=>230 | 4=>4 | 36=>221 | 35=>220 | 41=>127 | 5=>5 | 9=>9 | 53=>251 | 57=>255 | 63=>269 | 64=>82 | n=>n,fun | n=>n⟩
theorem Tryz.PK:Go.Proofs.SlLaysM.n6 prog Tryz.Uc:={
 mixed:=by kernel_rfl
 f6:=⟨Tryz.f122.name,zGDd,zGD func122⟩
 f8:=zGD func148
 f9:=⟨Tryz.f165.name,zGDd,zGD func165⟩
 f19:=zGD func189
 f20:=zGD func190
 f21:=⟨Tryz.f201.name,zGDd,zGD func201⟩
 f22:=⟨Tryz.f202.name,zGDd,zGD func202⟩
 f23:=⟨Tryz.f203.name,zGDd,zGD func203⟩
 f24:=⟨Tryz.f204.name,zGDd,zGD func204⟩
 f25:=⟨Tryz.f205.name,zGDd,zGD func205⟩
 f26:=⟨Tryz.f206.name,zGDd,zGD func206⟩
 f27:=⟨Tryz.f207.name,zGDd,zGD func207⟩
 f28:=⟨Tryz.f208.name,zGDd,zGD func208⟩
 f29:=⟨Tryz.f209.name,zGDd,zGD func209⟩
 f31:=zGD func218
 f32:=zGD func219
 f36:=⟨Tryz.f229.name,zGDd,zGD func229⟩
 f37:=⟨Tryz.f230.name,zGDd,zGD func230⟩
 f38:=⟨Tryz.f231.name,zGDd,zGD func231⟩
 f39:=⟨Tryz.f232.name,zGDd,zGD func232⟩
 f41:=⟨Tryz.f243.name,zGDd,zGD func243⟩
 t0:=underlying0
 a0:=isAgg0
 z0:=sizeOf0
 v0:=zeroValue0
 t3:=underlying3
 a3:=isAgg3
 z3:=sizeOf3
 v3:=zeroValue3
 t4:=underlying4
 a4:=isAgg4
 z4:=sizeOf4
 v4:=zeroValue4
 t5:=underlying5
 a5:=isAgg5
 z5:=sizeOf5
 v5:=zeroValue5
 t9:=underlying9
 a9:=isAgg9
 z9:=sizeOf9
 v9:=zeroValue9
 t26:=underlying47
 a26:=isAgg47
 z26:=sizeOf47
 v26:=zeroValue47
 t27:=underlying47
 a27:=isAgg47
 z27:=sizeOf47
 v27:=zeroValue47
 t29:=underlying9
 a29:=isAgg9
 z29:=sizeOf9
 v29:=zeroValue9
 t32:=underlying174
 a32:=isAgg174
 z32:=sizeOf174
 v32:=zeroValue174
 t35:=underlying220
 a35:=isAgg220
 z35:=sizeOf220
 v35:=zeroValue220
 t36:=underlying221
 a36:=isAgg221
 z36:=sizeOf221
 v36:=zeroValue221
 t41:=underlying127
 a41:=isAgg127
 z41:=sizeOf127
 v41:=zeroValue127
 t44:=underlying228
 a44:=isAgg228
 z44:=sizeOf228
 v44:=zeroValue228
 t46:=underlying230
 a46:=isAgg230
 z46:=sizeOf230
 v46:=zeroValue230
 t53:=underlying251
 a53:=isAgg251
 z53:=sizeOf251
 v53:=zeroValue251
 t57:=underlying255
 a57:=isAgg255
 z57:=sizeOf255
 v57:=zeroValue255
 t63:=underlying269
 a63:=isAgg269
 z63:=sizeOf269
 v63:=zeroValue269
 t64:=underlying82
 a64:=isAgg82
 z64:=sizeOf82
 v64:=zeroValue82 }
open Go.Sort Go.RowKit in
theorem Tryz.slices_Sort_string(blk off cap:Nat)(ss:List (List UInt8))(w:World)(hH:Holds encStr w blk off ss.toArray)(hblk:blk<w.heap.size)(bY:ss.length<4611686018427387904):
 Calls prog 122 #[.slice (some ⟨blk,off,none⟩) ss.length cap] w λe w'=>
  e= .returned (.tuple #[])/\∃n os,w'=grow (putRow encStr (Sort.ahead w n) blk off (ss.mergeSort λx y=>decide (x<=y)).toArray) os:=AnyM.slices_Sort_string Tryz.PK blk off cap ss w hH hblk bY
open Go.RowKit Go.Sort in
theorem Tryz.slices_Sort_string_none(p:Option Addr)(cap:Nat)(w:World):
 Calls prog 122 #[.slice p 0 cap] w λe w'=>e= .returned (.tuple #[])/\w'=w:=AnyM.slices_Sort_string_none Tryz.PK p cap w
open Go.RowKit Go.Sort in
theorem Tryz.slices_Sort_int_none(p:Option Addr)(cap:Nat)(w:World):
 Calls prog 84 #[.slice p 0 cap] w λe w'=>e= .returned (.tuple #[])/\w'=w:=AnyM.slices_Sort_int_none Tryz.RV p cap w
end Go.Proofs
