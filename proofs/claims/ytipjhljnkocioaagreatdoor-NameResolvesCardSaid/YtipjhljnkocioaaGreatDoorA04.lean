/- Part of a proof. -/
import Derived.Test.YtipjhljnkocioaaGreatDoorProg
import Derived.Shelf.Strings.Fields
import Derived.Shelf.Strings.SplitShaped
import Derived.Shelf.LaysM
set_option maxRecDepth 100000
set_option maxHeartbeats 8000000
set_option linter.unusedVariables false
set_option linter.unusedSimpArgs false
namespace Go.Proofs
open Go.Shelf
def Tryz.lays157_ren:Go.Shelf.Ren:=⟨fun | 157=>210 | 229=>221 | 199=>222 | 261=>233 | 311=>237 | 312=>238 | n=>n,fun | 9=>9 | 31=>60 | 3=>3 | 5=>5 | 4=>4 | 119=>204 | 0=>0 | 40=>206 | 152=>215 | 21=>21 | 154=>217 | 51=>138 | 141=>219 | 196=>224 | 193=>221 | 198=>227 | 49=>225 | 194=>222 | 201=>230 | 226=>239 | 46=>117 | 227=>240 | n=>n,fun | 0=>0 | 6=>1 | n=>n⟩
theorem Tryz.lays157:Go.Proofs.Lays.n157 Tryz.prog Tryz.lays157_ren:={
 mixed:=by kernel_rfl
 f157:=Tryz.func210.trans (congrArg some (by kernel_rfl))
 f199:=Tryz.func222.trans (congrArg some (by kernel_rfl))
 f229:=Tryz.func221.trans (congrArg some (by kernel_rfl))
 f261:=Tryz.func233.trans (congrArg some (by kernel_rfl))
 f311:=Tryz.func237.trans (congrArg some (by kernel_rfl))
 f312:=Tryz.func238.trans (congrArg some (by kernel_rfl))
 t0:=Tryz.underlying0
 a0:=Tryz.isAgg0
 z0:=Tryz.sizeOf0
 v0:=Tryz.zeroValue0
 t3:=Tryz.underlying3
 a3:=Tryz.isAgg3
 z3:=Tryz.sizeOf3
 v3:=Tryz.zeroValue3
 t4:=Tryz.underlying4
 a4:=Tryz.isAgg4
 z4:=Tryz.sizeOf4
 v4:=Tryz.zeroValue4
 t5:=Tryz.underlying5
 a5:=Tryz.isAgg5
 z5:=Tryz.sizeOf5
 v5:=Tryz.zeroValue5
 t9:=Tryz.underlying9
 a9:=Tryz.isAgg9
 z9:=Tryz.sizeOf9
 v9:=Tryz.zeroValue9
 t21:=Tryz.underlying21
 a21:=Tryz.isAgg21
 z21:=Tryz.sizeOf21
 v21:=Tryz.zeroValue21
 t31:=Tryz.underlying60
 a31:=Tryz.isAgg60
 z31:=Tryz.sizeOf60
 v31:=Tryz.zeroValue60
 t40:=Tryz.underlying206
 a40:=Tryz.isAgg206
 z40:=Tryz.sizeOf206
 v40:=Tryz.zeroValue206
 t46:=Tryz.underlying117
 a46:=Tryz.isAgg117
 z46:=Tryz.sizeOf117
 v46:=Tryz.zeroValue117
 t49:=Tryz.underlying225
 a49:=Tryz.isAgg225
 z49:=Tryz.sizeOf225
 v49:=Tryz.zeroValue225
 t51:=Tryz.underlying138
 a51:=Tryz.isAgg138
 z51:=Tryz.sizeOf138
 v51:=Tryz.zeroValue138
 t119:=Tryz.underlying204
 a119:=Tryz.isAgg204
 z119:=Tryz.sizeOf204
 t141:=Tryz.underlying219
 a141:=Tryz.isAgg219
 z141:=Tryz.sizeOf219
 v141:=Tryz.zeroValue219
 t152:=Tryz.underlying215
 a152:=Tryz.isAgg215
 z152:=Tryz.sizeOf215
 v152:=Tryz.zeroValue215
 t154:=Tryz.underlying217
 a154:=Tryz.isAgg217
 z154:=Tryz.sizeOf217
 v154:=Tryz.zeroValue217
 t193:=Tryz.underlying221
 a193:=Tryz.isAgg221
 z193:=Tryz.sizeOf221
 v193:=Tryz.zeroValue221
 t194:=Tryz.underlying222
 a194:=Tryz.isAgg222
 z194:=Tryz.sizeOf222
 v194:=Tryz.zeroValue222
 t196:=Tryz.underlying224
 a196:=Tryz.isAgg224
 z196:=Tryz.sizeOf224
 v196:=Tryz.zeroValue224
 t198:=Tryz.underlying227
 a198:=Tryz.isAgg227
 z198:=Tryz.sizeOf227
 v198:=Tryz.zeroValue227
 t201:=Tryz.underlying230
 a201:=Tryz.isAgg230
 z201:=Tryz.sizeOf230
 v201:=Tryz.zeroValue230
 t226:=Tryz.underlying239
 a226:=Tryz.isAgg239
 z226:=Tryz.sizeOf239
 v226:=Tryz.zeroValue239
 t227:=Tryz.underlying240
 a227:=Tryz.isAgg240
 z227:=Tryz.sizeOf240
 v227:=Tryz.zeroValue240
 g0:=by kernel_rfl
 g6:=by kernel_rfl }
open Go.RowKit Go.Lib in
theorem Tryz.strings_Fields (s:ByteArray) (w:World) (hs:s.size<4294967281) (hascii:∀ (j:Nat) b,s.data.toList[j]?=some b→b.toNat<128) (htab:Lib.TabIs Tryz.prog w "strings.asciiSpace" .u8 Lib.asciiSpaceTab) :
 Calls Tryz.prog 210 #[.string s] w fun e w'=>
  e = .returned (.slice (some ⟨w.heap.size,0,none⟩) (Lib.fields s.data.toList).length (Lib.fields s.data.toList).length)∧w'=w.alloc (.cells ((Lib.fields s.data.toList).map fun l=>Value.string ⟨l.toArray⟩).toArray 9):=Any.strings_Fields Tryz.lays157 (by kernel_rfl) (by kernel_rfl) s w hs hascii htab
end Go.Proofs
