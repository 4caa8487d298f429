/- Part of a proof. -/
import Derived.Test.YthjpoaannjgdmaaGreatDoorProg
import Derived.Shelf.Strings.Fields
import Derived.Shelf.Strings.SplitShaped
import Derived.Shelf.LaysM
set_option maxRecDepth 100000
set_option maxHeartbeats 8000000
set_option linter.unusedVariables false
set_option linter.unusedSimpArgs false
open Go.Proofs.Tryz
namespace Go.Proofs
open Go.Shelf
def Tryz.lays157_ren:Go.Shelf.Ren:=⟨fun|157=>139|229=>169|199=>170|261=>197|311=>202|312=>203|n=>n,fun|9=>9|31=>26|3=>3|5=>5|4=>4|119=>223|0=>0|40=>225|152=>241|21=>21|154=>243|51=>146|141=>245|196=>253|193=>250|198=>256|49=>254|194=>251|201=>259|226=>264|46=>169|227=>265|n=>n,fun|0=>4|6=>5|n=>n⟩
theorem Tryz.lays157:Go.Proofs.Lays.n157 prog Tryz.lays157_ren:={
 mixed:=by kernel_rfl
 f157:=func139.trans (congrArg some (by kernel_rfl))
 f199:=func170.trans (congrArg some (by kernel_rfl))
 f229:=func169.trans (congrArg some (by kernel_rfl))
 f261:=func197.trans (congrArg some (by kernel_rfl))
 f311:=func202.trans (congrArg some (by kernel_rfl))
 f312:=func203.trans (congrArg some (by kernel_rfl))
 t0:=underlying0
 a0:=isAgg0
 z0:=sizeOf0
 v0:=zeroValue0
 t3:=underlying3
 a3:=isAgg3
 z3:=sizeOf3
 v3:=zeroValue3
 t4:=underlying4
 a4:=isAgg4
 z4:=sizeOf4
 v4:=zeroValue4
 t5:=underlying5
 a5:=isAgg5
 z5:=sizeOf5
 v5:=zeroValue5
 t9:=underlying9
 a9:=isAgg9
 z9:=sizeOf9
 v9:=zeroValue9
 t21:=underlying21
 a21:=isAgg21
 z21:=sizeOf21
 v21:=zeroValue21
 t31:=underlying26
 a31:=isAgg26
 z31:=sizeOf26
 v31:=zeroValue26
 t40:=underlying225
 a40:=isAgg225
 z40:=sizeOf225
 v40:=zeroValue225
 t46:=underlying169
 a46:=isAgg169
 z46:=sizeOf169
 v46:=zeroValue169
 t49:=underlying254
 a49:=isAgg254
 z49:=sizeOf254
 v49:=zeroValue254
 t51:=underlying146
 a51:=isAgg146
 z51:=sizeOf146
 v51:=zeroValue146
 t119:=underlying223
 a119:=isAgg223
 z119:=sizeOf223
 t141:=underlying245
 a141:=isAgg245
 z141:=sizeOf245
 v141:=zeroValue245
 t152:=underlying241
 a152:=isAgg241
 z152:=sizeOf241
 v152:=zeroValue241
 t154:=underlying243
 a154:=isAgg243
 z154:=sizeOf243
 v154:=zeroValue243
 t193:=underlying250
 a193:=isAgg250
 z193:=sizeOf250
 v193:=zeroValue250
 t194:=underlying251
 a194:=isAgg251
 z194:=sizeOf251
 v194:=zeroValue251
 t196:=underlying253
 a196:=isAgg253
 z196:=sizeOf253
 v196:=zeroValue253
 t198:=underlying256
 a198:=isAgg256
 z198:=sizeOf256
 v198:=zeroValue256
 t201:=underlying259
 a201:=isAgg259
 z201:=sizeOf259
 v201:=zeroValue259
 t226:=underlying264
 a226:=isAgg264
 z226:=sizeOf264
 v226:=zeroValue264
 t227:=underlying265
 a227:=isAgg265
 z227:=sizeOf265
 v227:=zeroValue265
 g0:=by kernel_rfl
 g6:=by kernel_rfl }
open Go.RowKit Go.Lib in
theorem Tryz.strings_Fields (s:ByteArray) (w:World) (hs:s.size<4294967281) (hascii:∀(j:Nat) b,s.data.toList[j]?=some b->b.toNat<128) (htab:Lib.TabIs prog w "strings.asciiSpace" .u8 Lib.asciiSpaceTab) :
 Calls prog 139 #[.string s] w fun e w'=>
  e=.returned (.slice (some ⟨w.heap.size,0,none⟩) (Lib.fields s.data.toList).length (Lib.fields s.data.toList).length)/\w'=w.alloc (.cells ((Lib.fields s.data.toList).map fun l=>Value.string ⟨l.toArray⟩).toArray 9):=Any.strings_Fields Tryz.lays157 (by kernel_rfl) (by kernel_rfl) s w hs hascii htab
end Go.Proofs
