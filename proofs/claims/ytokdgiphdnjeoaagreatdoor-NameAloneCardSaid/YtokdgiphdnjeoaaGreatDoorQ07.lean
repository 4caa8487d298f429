/- Part of a proof. -/
import Derived.Test.YtokdgiphdnjeoaaGreatDoorProg
import Derived.Shelf.Sort.Plain
import Derived.Shelf.Slices.In.SortNone
import Derived.Shelf.Slices.CompactI
import Derived.Shelf.Slices.Empties
import Derived.Shelf.LaysM
set_option maxRecDepth 100000
set_option maxHeartbeats 8000000
set_option linter.unusedVariables false
set_option linter.unusedSimpArgs false
open Go.Proofs.Tryz
namespace Go.Proofs
open Go.Shelf
def Tryz.lays189_ren:Go.Shelf.Ren:=⟨fun|189=>92|125=>141|257=>140|128=>197|129=>198|294=>189|295=>190|296=>191|297=>192|298=>193|299=>194|216=>187|300=>195|301=>196|328=>250|329=>251|330=>252|331=>253|332=>254|215=>249|343=>298|n=>n,fun|28=>23|3=>3|46=>175|0=>0|51=>212|53=>214|4=>4|183=>206|182=>205|131=>105|5=>5|9=>9|218=>256|222=>260|228=>291|229=>73|n=>n,fun|n=>n⟩
theorem Tryz.lays189:Go.Proofs.Lays.n189 prog Tryz.lays189_ren:={
 mixed:=by kernel_rfl
 f125:=func141.trans (congrArg some (by kernel_rfl))
 f128:=func197.trans (congrArg some (by kernel_rfl))
 f129:=func198.trans (congrArg some (by kernel_rfl))
 f189:=func92.trans (congrArg some (by kernel_rfl))
 f215:=func249.trans (congrArg some (by kernel_rfl))
 f216:=func187.trans (congrArg some (by kernel_rfl))
 f257:=func140.trans (congrArg some (by kernel_rfl))
 f294:=func189.trans (congrArg some (by kernel_rfl))
 f295:=func190.trans (congrArg some (by kernel_rfl))
 f296:=func191.trans (congrArg some (by kernel_rfl))
 f297:=func192.trans (congrArg some (by kernel_rfl))
 f298:=func193.trans (congrArg some (by kernel_rfl))
 f299:=func194.trans (congrArg some (by kernel_rfl))
 f300:=func195.trans (congrArg some (by kernel_rfl))
 f301:=func196.trans (congrArg some (by kernel_rfl))
 f328:=func250.trans (congrArg some (by kernel_rfl))
 f329:=func251.trans (congrArg some (by kernel_rfl))
 f330:=func252.trans (congrArg some (by kernel_rfl))
 f331:=func253.trans (congrArg some (by kernel_rfl))
 f332:=func254.trans (congrArg some (by kernel_rfl))
 f343:=func298.trans (congrArg some (by kernel_rfl))
 t0:=underlying0
 a0:=isAgg0
 z0:=sizeOf0
 v0:=zeroValue0
 t3:=underlying3
 a3:=isAgg3
 z3:=sizeOf3
 v3:=zeroValue3
 t4:=underlying4
 a4:=isAgg4
 z4:=sizeOf4
 v4:=zeroValue4
 t5:=underlying5
 a5:=isAgg5
 z5:=sizeOf5
 v5:=zeroValue5
 t9:=underlying9
 a9:=isAgg9
 z9:=sizeOf9
 v9:=zeroValue9
 t28:=underlying23
 a28:=isAgg23
 z28:=sizeOf23
 v28:=zeroValue23
 t46:=underlying175
 a46:=isAgg175
 z46:=sizeOf175
 v46:=zeroValue175
 t51:=underlying212
 a51:=isAgg212
 z51:=sizeOf212
 v51:=zeroValue212
 t53:=underlying214
 a53:=isAgg214
 z53:=sizeOf214
 v53:=zeroValue214
 t131:=underlying105
 a131:=isAgg105
 z131:=sizeOf105
 v131:=zeroValue105
 t182:=underlying205
 a182:=isAgg205
 z182:=sizeOf205
 v182:=zeroValue205
 t183:=underlying206
 a183:=isAgg206
 z183:=sizeOf206
 v183:=zeroValue206
 t218:=underlying256
 a218:=isAgg256
 z218:=sizeOf256
 v218:=zeroValue256
 t222:=underlying260
 a222:=isAgg260
 z222:=sizeOf260
 v222:=zeroValue260
 t228:=underlying291
 a228:=isAgg291
 z228:=sizeOf291
 v228:=zeroValue291
 t229:=underlying73
 a229:=isAgg73
 z229:=sizeOf73
 v229:=zeroValue73 }
open Go.Sort Go.RowKit in
theorem Tryz.slices_Sort_int (blk off cap:Nat) (zs:List Int) (w:World) (hH:Holds (Value.int .i64) w blk off zs.toArray) (hblk:blk<w.heap.size) (hsz:zs.length<4611686018427387904) :
 Calls prog 92 #[.slice (some ⟨blk,off,none⟩) zs.length cap] w fun e w'=>
  e=.returned (.tuple #[])∧∃n os,w'=grow (putRow (Value.int .i64) (Sort.ahead w n) blk off (zs.mergeSort fun x y=>decide (x≤y)).toArray) os:=Any.slices_Sort_int Tryz.lays189 blk off cap zs w hH hblk hsz
def Tryz.laysNm220_ren:Go.Shelf.Ren:=⟨fun|20=>149|n=>n,fun|22=>23|3=>3|4=>4|0=>0|n=>n,fun|n=>n⟩
theorem Tryz.laysNm220:Go.Proofs.Lays2.n20 prog Tryz.laysNm220_ren:={
 mixed:=by kernel_rfl
 f20:=func149.trans (congrArg some (by kernel_rfl))
 t0:=underlying0
 a0:=isAgg0
 z0:=sizeOf0
 v0:=zeroValue0
 t3:=underlying3
 a3:=isAgg3
 z3:=sizeOf3
 v3:=zeroValue3
 t4:=underlying4
 a4:=isAgg4
 z4:=sizeOf4
 v4:=zeroValue4
 t22:=underlying23
 a22:=isAgg23
 z22:=sizeOf23
 v22:=zeroValue23
 i3:=by kernel_rfl }
open Go.RowKit Go.Lib Go.Sort in
theorem Tryz.slices_Compact_int (blk off cap:Nat) (zs:List Int) (w:World) (hH:Holds (Value.int .i64) w blk off zs.toArray) (hsz:zs.length≤9223372036854775807) (hcap:zs.length≤cap) :
 Calls prog 149 #[.slice (some ⟨blk,off,none⟩) zs.length cap] w fun e w'=>e=.returned (.slice (some ⟨blk,off,none⟩) (Lib.compact zs).length cap)∧∃q,w'=putRow (Value.int .i64) (Sort.ahead w q) blk off (Lib.compact zs++List.replicate (zs.length-(Lib.compact zs).length) 0).toArray:=Any.slices_Compact_int Tryz.laysNm220 blk off cap zs w hH hsz hcap
open Go.RowKit Go.Lib Go.Sort in
theorem Tryz.slices_Compact_int_empty (a:Option Addr) (cap:Nat) (w:World) :
 Calls prog 149 #[.slice a 0 cap] w fun e w'=>e=.returned (.slice a 0 cap)∧w'=w:=Any.slices_Compact_int_empty Tryz.laysNm220 a cap w
open Go.RowKit Go.Sort in
theorem Tryz.slices_Sort_int_none (p:Option Addr) (cap:Nat) (w:World) :
 Calls prog 92 #[.slice p 0 cap] w fun e w'=>e=.returned (.tuple #[])∧w'=w:=Any.slices_Sort_int_none Tryz.lays189 p cap w
end Go.Proofs
