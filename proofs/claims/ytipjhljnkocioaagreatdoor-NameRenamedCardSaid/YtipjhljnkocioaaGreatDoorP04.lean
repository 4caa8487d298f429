/- Part of a proof. -/
import Derived.Test.YtipjhljnkocioaaGreatDoorProg
import Derived.Shelf.Strings.Fields
import Derived.Shelf.Strings.SplitShaped
import Derived.Shelf.LaysM
set_option maxRecDepth 100000
set_option maxHeartbeats 8000000
set_option linter.unusedVariables false
set_option linter.unusedSimpArgs false
open Go.Proofs.Tryz
namespace Go.Proofs
open Go.Shelf
def Tryz.lays157_ren:Go.Shelf.Ren:=⟨fun|157=>210|229=>221|199=>222|261=>233|311=>237|312=>238|n=>n,fun|9=>9|31=>60|3=>3|5=>5|4=>4|119=>204|0=>0|40=>206|152=>215|21=>21|154=>217|51=>138|141=>219|196=>224|193=>221|198=>227|49=>225|194=>222|201=>230|226=>239|46=>117|227=>240|n=>n,fun|0=>0|6=>1|n=>n⟩
theorem Tryz.lays157:Go.Proofs.Lays.n157 prog Tryz.lays157_ren:={
 mixed:=by kernel_rfl
 f157:=func210.trans (congrArg some (by kernel_rfl))
 f199:=func222.trans (congrArg some (by kernel_rfl))
 f229:=func221.trans (congrArg some (by kernel_rfl))
 f261:=func233.trans (congrArg some (by kernel_rfl))
 f311:=func237.trans (congrArg some (by kernel_rfl))
 f312:=func238.trans (congrArg some (by kernel_rfl))
 t0:=underlying0
 a0:=isAgg0
 z0:=sizeOf0
 v0:=zeroValue0
 t3:=underlying3
 a3:=isAgg3
 z3:=sizeOf3
 v3:=zeroValue3
 t4:=underlying4
 a4:=isAgg4
 z4:=sizeOf4
 v4:=zeroValue4
 t5:=underlying5
 a5:=isAgg5
 z5:=sizeOf5
 v5:=zeroValue5
 t9:=underlying9
 a9:=isAgg9
 z9:=sizeOf9
 v9:=zeroValue9
 t21:=underlying21
 a21:=isAgg21
 z21:=sizeOf21
 v21:=zeroValue21
 t31:=underlying60
 a31:=isAgg60
 z31:=sizeOf60
 v31:=zeroValue60
 t40:=underlying206
 a40:=isAgg206
 z40:=sizeOf206
 v40:=zeroValue206
 t46:=underlying117
 a46:=isAgg117
 z46:=sizeOf117
 v46:=zeroValue117
 t49:=underlying225
 a49:=isAgg225
 z49:=sizeOf225
 v49:=zeroValue225
 t51:=underlying138
 a51:=isAgg138
 z51:=sizeOf138
 v51:=zeroValue138
 t119:=underlying204
 a119:=isAgg204
 z119:=sizeOf204
 t141:=underlying219
 a141:=isAgg219
 z141:=sizeOf219
 v141:=zeroValue219
 t152:=underlying215
 a152:=isAgg215
 z152:=sizeOf215
 v152:=zeroValue215
 t154:=underlying217
 a154:=isAgg217
 z154:=sizeOf217
 v154:=zeroValue217
 t193:=underlying221
 a193:=isAgg221
 z193:=sizeOf221
 v193:=zeroValue221
 t194:=underlying222
 a194:=isAgg222
 z194:=sizeOf222
 v194:=zeroValue222
 t196:=underlying224
 a196:=isAgg224
 z196:=sizeOf224
 v196:=zeroValue224
 t198:=underlying227
 a198:=isAgg227
 z198:=sizeOf227
 v198:=zeroValue227
 t201:=underlying230
 a201:=isAgg230
 z201:=sizeOf230
 v201:=zeroValue230
 t226:=underlying239
 a226:=isAgg239
 z226:=sizeOf239
 v226:=zeroValue239
 t227:=underlying240
 a227:=isAgg240
 z227:=sizeOf240
 v227:=zeroValue240
 g0:=by kernel_rfl
 g6:=by kernel_rfl }
open Go.RowKit Go.Lib in
theorem Tryz.strings_Fields (s:ByteArray) (w:World) (hs:s.size<4294967281) (hascii:∀(j:Nat) b,s.data.toList[j]?=some b→b.toNat<128) (htab:Lib.TabIs prog w "strings.asciiSpace" .u8 Lib.asciiSpaceTab) :
 Calls prog 210 #[.string s] w fun e w'=>
  e=.returned (.slice (some ⟨w.heap.size,0,none⟩) (Lib.fields s.data.toList).length (Lib.fields s.data.toList).length)∧w'=w.alloc (.cells ((Lib.fields s.data.toList).map fun l=>Value.string ⟨l.toArray⟩).toArray 9):=Any.strings_Fields Tryz.lays157 (by kernel_rfl) (by kernel_rfl) s w hs hascii htab
end Go.Proofs
