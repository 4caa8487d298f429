/- Part of a proof. -/
import Derived.Test.YtcdkdiedphhdhaaGreatDoorProg
import Derived.Shelf.Strings.Fields
import Derived.Shelf.Strings.SplitShaped
import Derived.Shelf.LaysM
set_option maxRecDepth 100000
set_option maxHeartbeats 8000000
set_option linter.unusedVariables false
set_option linter.unusedSimpArgs false
open Go.Proofs.Tryz
namespace Go.Proofs
open Go.Shelf
def Tryz.lays157_ren:Go.Shelf.Ren:=⟨fun|157=>152|229=>181|199=>182|261=>209|311=>214|312=>215|n=>n,fun|9=>9|31=>26|3=>3|5=>5|4=>4|119=>235|0=>0|40=>237|152=>253|21=>21|154=>255|51=>158|141=>257|196=>265|193=>262|198=>268|49=>266|194=>263|201=>271|226=>276|46=>172|227=>277|n=>n,fun|0=>4|6=>5|n=>n⟩
theorem Tryz.lays157:Go.Proofs.Lays.n157 prog Tryz.lays157_ren:={
 mixed:=by kernel_rfl
 f157:=func152.trans (congrArg some (by kernel_rfl))
 f199:=func182.trans (congrArg some (by kernel_rfl))
 f229:=func181.trans (congrArg some (by kernel_rfl))
 f261:=func209.trans (congrArg some (by kernel_rfl))
 f311:=func214.trans (congrArg some (by kernel_rfl))
 f312:=func215.trans (congrArg some (by kernel_rfl))
 t0:=underlying0
 a0:=isAgg0
 z0:=sizeOf0
 v0:=zeroValue0
 t3:=underlying3
 a3:=isAgg3
 z3:=sizeOf3
 v3:=zeroValue3
 t4:=underlying4
 a4:=isAgg4
 z4:=sizeOf4
 v4:=zeroValue4
 t5:=underlying5
 a5:=isAgg5
 z5:=sizeOf5
 v5:=zeroValue5
 t9:=underlying9
 a9:=isAgg9
 z9:=sizeOf9
 v9:=zeroValue9
 t21:=underlying21
 a21:=isAgg21
 z21:=sizeOf21
 v21:=zeroValue21
 t31:=underlying26
 a31:=isAgg26
 z31:=sizeOf26
 v31:=zeroValue26
 t40:=underlying237
 a40:=isAgg237
 z40:=sizeOf237
 v40:=zeroValue237
 t46:=underlying172
 a46:=isAgg172
 z46:=sizeOf172
 v46:=zeroValue172
 t49:=underlying266
 a49:=isAgg266
 z49:=sizeOf266
 v49:=zeroValue266
 t51:=underlying158
 a51:=isAgg158
 z51:=sizeOf158
 v51:=zeroValue158
 t119:=underlying235
 a119:=isAgg235
 z119:=sizeOf235
 t141:=underlying257
 a141:=isAgg257
 z141:=sizeOf257
 v141:=zeroValue257
 t152:=underlying253
 a152:=isAgg253
 z152:=sizeOf253
 v152:=zeroValue253
 t154:=underlying255
 a154:=isAgg255
 z154:=sizeOf255
 v154:=zeroValue255
 t193:=underlying262
 a193:=isAgg262
 z193:=sizeOf262
 v193:=zeroValue262
 t194:=underlying263
 a194:=isAgg263
 z194:=sizeOf263
 v194:=zeroValue263
 t196:=underlying265
 a196:=isAgg265
 z196:=sizeOf265
 v196:=zeroValue265
 t198:=underlying268
 a198:=isAgg268
 z198:=sizeOf268
 v198:=zeroValue268
 t201:=underlying271
 a201:=isAgg271
 z201:=sizeOf271
 v201:=zeroValue271
 t226:=underlying276
 a226:=isAgg276
 z226:=sizeOf276
 v226:=zeroValue276
 t227:=underlying277
 a227:=isAgg277
 z227:=sizeOf277
 v227:=zeroValue277
 g0:=by kernel_rfl
 g6:=by kernel_rfl }
open Go.RowKit Go.Lib in
theorem Tryz.strings_Fields (s:ByteArray) (w:World) (hs:s.size<4294967281) (hascii:∀(j:Nat) b,s.data.toList[j]?=some b->b.toNat<128) (htab:Lib.TabIs prog w "strings.asciiSpace" .u8 Lib.asciiSpaceTab) :
 Calls prog 152 #[.string s] w fun e w'=>
  e=.returned (.slice (some ⟨w.heap.size,0,none⟩) (Lib.fields s.data.toList).length (Lib.fields s.data.toList).length)/\w'=w.alloc (.cells ((Lib.fields s.data.toList).map fun l=>Value.string ⟨l.toArray⟩).toArray 9):=Any.strings_Fields Tryz.lays157 (by kernel_rfl) (by kernel_rfl) s w hs hascii htab
end Go.Proofs
