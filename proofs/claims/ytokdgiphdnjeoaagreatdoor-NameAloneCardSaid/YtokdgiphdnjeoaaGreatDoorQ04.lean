/- Part of a proof. -/
import Derived.Test.YtokdgiphdnjeoaaGreatDoorProg
import Derived.Shelf.Strings.Fields
import Derived.Shelf.Strings.SplitShaped
import Derived.Shelf.LaysM
set_option maxRecDepth 100000
set_option maxHeartbeats 8000000
set_option linter.unusedVariables false
set_option linter.unusedSimpArgs false
open Go.Proofs.Tryz
namespace Go.Proofs
open Go.Shelf
def Tryz.lays157_ren:Go.Shelf.Ren:=⟨fun|157=>286|229=>312|199=>313|261=>326|311=>330|312=>331|n=>n,fun|9=>9|31=>29|3=>3|5=>5|4=>4|119=>303|0=>0|40=>305|152=>313|21=>21|154=>315|51=>212|141=>317|196=>324|193=>321|198=>327|49=>325|194=>322|201=>330|226=>335|46=>175|227=>336|n=>n,fun|0=>4|6=>5|n=>n⟩
theorem Tryz.lays157:Go.Proofs.Lays.n157 prog Tryz.lays157_ren:={
 mixed:=by kernel_rfl
 f157:=func286.trans (congrArg some (by kernel_rfl))
 f199:=func313.trans (congrArg some (by kernel_rfl))
 f229:=func312.trans (congrArg some (by kernel_rfl))
 f261:=func326.trans (congrArg some (by kernel_rfl))
 f311:=func330.trans (congrArg some (by kernel_rfl))
 f312:=func331.trans (congrArg some (by kernel_rfl))
 t0:=underlying0
 a0:=isAgg0
 z0:=sizeOf0
 v0:=zeroValue0
 t3:=underlying3
 a3:=isAgg3
 z3:=sizeOf3
 v3:=zeroValue3
 t4:=underlying4
 a4:=isAgg4
 z4:=sizeOf4
 v4:=zeroValue4
 t5:=underlying5
 a5:=isAgg5
 z5:=sizeOf5
 v5:=zeroValue5
 t9:=underlying9
 a9:=isAgg9
 z9:=sizeOf9
 v9:=zeroValue9
 t21:=underlying21
 a21:=isAgg21
 z21:=sizeOf21
 v21:=zeroValue21
 t31:=underlying29
 a31:=isAgg29
 z31:=sizeOf29
 v31:=zeroValue29
 t40:=underlying305
 a40:=isAgg305
 z40:=sizeOf305
 v40:=zeroValue305
 t46:=underlying175
 a46:=isAgg175
 z46:=sizeOf175
 v46:=zeroValue175
 t49:=underlying325
 a49:=isAgg325
 z49:=sizeOf325
 v49:=zeroValue325
 t51:=underlying212
 a51:=isAgg212
 z51:=sizeOf212
 v51:=zeroValue212
 t119:=underlying303
 a119:=isAgg303
 z119:=sizeOf303
 t141:=underlying317
 a141:=isAgg317
 z141:=sizeOf317
 v141:=zeroValue317
 t152:=underlying313
 a152:=isAgg313
 z152:=sizeOf313
 v152:=zeroValue313
 t154:=underlying315
 a154:=isAgg315
 z154:=sizeOf315
 v154:=zeroValue315
 t193:=underlying321
 a193:=isAgg321
 z193:=sizeOf321
 v193:=zeroValue321
 t194:=underlying322
 a194:=isAgg322
 z194:=sizeOf322
 v194:=zeroValue322
 t196:=underlying324
 a196:=isAgg324
 z196:=sizeOf324
 v196:=zeroValue324
 t198:=underlying327
 a198:=isAgg327
 z198:=sizeOf327
 v198:=zeroValue327
 t201:=underlying330
 a201:=isAgg330
 z201:=sizeOf330
 v201:=zeroValue330
 t226:=underlying335
 a226:=isAgg335
 z226:=sizeOf335
 v226:=zeroValue335
 t227:=underlying336
 a227:=isAgg336
 z227:=sizeOf336
 v227:=zeroValue336
 g0:=by kernel_rfl
 g6:=by kernel_rfl }
open Go.RowKit Go.Lib in
theorem Tryz.strings_Fields (s:ByteArray) (w:World) (hs:s.size<4294967281) (hascii:∀(j:Nat) b,s.data.toList[j]?=some b→b.toNat<128) (htab:Lib.TabIs prog w "strings.asciiSpace" .u8 Lib.asciiSpaceTab) :
 Calls prog 286 #[.string s] w fun e w'=>
  e=.returned (.slice (some ⟨w.heap.size,0,none⟩) (Lib.fields s.data.toList).length (Lib.fields s.data.toList).length)∧w'=w.alloc (.cells ((Lib.fields s.data.toList).map fun l=>Value.string ⟨l.toArray⟩).toArray 9):=Any.strings_Fields Tryz.lays157 (by kernel_rfl) (by kernel_rfl) s w hs hascii htab
end Go.Proofs
