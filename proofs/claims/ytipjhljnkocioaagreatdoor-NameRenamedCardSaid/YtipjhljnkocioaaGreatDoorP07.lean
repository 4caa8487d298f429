/- Part of a proof. -/
import Derived.Test.YtipjhljnkocioaaGreatDoorProg
import Derived.Shelf.Sort.Plain
import Derived.Shelf.Slices.In.SortNone
import Derived.Shelf.Slices.CompactI
import Derived.Shelf.Slices.Empties
import Derived.Shelf.LaysM
set_option maxRecDepth 100000
set_option maxHeartbeats 8000000
set_option linter.unusedVariables false
set_option linter.unusedSimpArgs false
open Go.Proofs.Tryz
namespace Go.Proofs
open Go.Shelf
def Tryz.lays189_ren:Go.Shelf.Ren:=⟨fun|189=>61|125=>102|257=>101|128=>139|129=>140|294=>130|295=>131|296=>132|297=>133|298=>134|299=>135|216=>136|300=>137|301=>138|328=>165|329=>166|330=>167|331=>168|332=>169|215=>170|343=>208|n=>n,fun|28=>23|3=>3|46=>117|0=>0|51=>138|53=>140|4=>4|183=>133|182=>132|131=>122|5=>5|9=>9|218=>168|222=>172|228=>196|229=>197|n=>n,fun|n=>n⟩
theorem Tryz.lays189:Go.Proofs.Lays.n189 prog Tryz.lays189_ren:={
 mixed:=by kernel_rfl
 f125:=func102.trans (congrArg some (by kernel_rfl))
 f128:=func139.trans (congrArg some (by kernel_rfl))
 f129:=func140.trans (congrArg some (by kernel_rfl))
 f189:=func61.trans (congrArg some (by kernel_rfl))
 f215:=func170.trans (congrArg some (by kernel_rfl))
 f216:=func136.trans (congrArg some (by kernel_rfl))
 f257:=func101.trans (congrArg some (by kernel_rfl))
 f294:=func130.trans (congrArg some (by kernel_rfl))
 f295:=func131.trans (congrArg some (by kernel_rfl))
 f296:=func132.trans (congrArg some (by kernel_rfl))
 f297:=func133.trans (congrArg some (by kernel_rfl))
 f298:=func134.trans (congrArg some (by kernel_rfl))
 f299:=func135.trans (congrArg some (by kernel_rfl))
 f300:=func137.trans (congrArg some (by kernel_rfl))
 f301:=func138.trans (congrArg some (by kernel_rfl))
 f328:=func165.trans (congrArg some (by kernel_rfl))
 f329:=func166.trans (congrArg some (by kernel_rfl))
 f330:=func167.trans (congrArg some (by kernel_rfl))
 f331:=func168.trans (congrArg some (by kernel_rfl))
 f332:=func169.trans (congrArg some (by kernel_rfl))
 f343:=func208.trans (congrArg some (by kernel_rfl))
 t0:=underlying0
 a0:=isAgg0
 z0:=sizeOf0
 v0:=zeroValue0
 t3:=underlying3
 a3:=isAgg3
 z3:=sizeOf3
 v3:=zeroValue3
 t4:=underlying4
 a4:=isAgg4
 z4:=sizeOf4
 v4:=zeroValue4
 t5:=underlying5
 a5:=isAgg5
 z5:=sizeOf5
 v5:=zeroValue5
 t9:=underlying9
 a9:=isAgg9
 z9:=sizeOf9
 v9:=zeroValue9
 t28:=underlying23
 a28:=isAgg23
 z28:=sizeOf23
 v28:=zeroValue23
 t46:=underlying117
 a46:=isAgg117
 z46:=sizeOf117
 v46:=zeroValue117
 t51:=underlying138
 a51:=isAgg138
 z51:=sizeOf138
 v51:=zeroValue138
 t53:=underlying140
 a53:=isAgg140
 z53:=sizeOf140
 v53:=zeroValue140
 t131:=underlying122
 a131:=isAgg122
 z131:=sizeOf122
 v131:=zeroValue122
 t182:=underlying132
 a182:=isAgg132
 z182:=sizeOf132
 v182:=zeroValue132
 t183:=underlying133
 a183:=isAgg133
 z183:=sizeOf133
 v183:=zeroValue133
 t218:=underlying168
 a218:=isAgg168
 z218:=sizeOf168
 v218:=zeroValue168
 t222:=underlying172
 a222:=isAgg172
 z222:=sizeOf172
 v222:=zeroValue172
 t228:=underlying196
 a228:=isAgg196
 z228:=sizeOf196
 v228:=zeroValue196
 t229:=underlying197
 a229:=isAgg197
 z229:=sizeOf197
 v229:=zeroValue197 }
open Go.Sort Go.RowKit in
theorem Tryz.slices_Sort_int (blk off cap:Nat) (zs:List Int) (w:World) (hH:Holds (Value.int .i64) w blk off zs.toArray) (hblk:blk<w.heap.size) (hsz:zs.length<4611686018427387904) :
 Calls prog 61 #[.slice (some ⟨blk,off,none⟩) zs.length cap] w fun e w'=>
  e=.returned (.tuple #[])∧∃n os,w'=grow (putRow (Value.int .i64) (Sort.ahead w n) blk off (zs.mergeSort fun x y=>decide (x≤y)).toArray) os:=Any.slices_Sort_int Tryz.lays189 blk off cap zs w hH hblk hsz
def Tryz.laysNm220_ren:Go.Shelf.Ren:=⟨fun|20=>63|n=>n,fun|22=>23|3=>3|4=>4|0=>0|n=>n,fun|n=>n⟩
theorem Tryz.laysNm220:Go.Proofs.Lays2.n20 prog Tryz.laysNm220_ren:={
 mixed:=by kernel_rfl
 f20:=func63.trans (congrArg some (by kernel_rfl))
 t0:=underlying0
 a0:=isAgg0
 z0:=sizeOf0
 v0:=zeroValue0
 t3:=underlying3
 a3:=isAgg3
 z3:=sizeOf3
 v3:=zeroValue3
 t4:=underlying4
 a4:=isAgg4
 z4:=sizeOf4
 v4:=zeroValue4
 t22:=underlying23
 a22:=isAgg23
 z22:=sizeOf23
 v22:=zeroValue23
 i3:=by kernel_rfl }
open Go.RowKit Go.Lib Go.Sort in
theorem Tryz.slices_Compact_int (blk off cap:Nat) (zs:List Int) (w:World) (hH:Holds (Value.int .i64) w blk off zs.toArray) (hsz:zs.length≤9223372036854775807) (hcap:zs.length≤cap) :
 Calls prog 63 #[.slice (some ⟨blk,off,none⟩) zs.length cap] w fun e w'=>e=.returned (.slice (some ⟨blk,off,none⟩) (Lib.compact zs).length cap)∧∃q,w'=putRow (Value.int .i64) (Sort.ahead w q) blk off (Lib.compact zs++List.replicate (zs.length-(Lib.compact zs).length) 0).toArray:=Any.slices_Compact_int Tryz.laysNm220 blk off cap zs w hH hsz hcap
open Go.RowKit Go.Lib Go.Sort in
theorem Tryz.slices_Compact_int_empty (a:Option Addr) (cap:Nat) (w:World) :
 Calls prog 63 #[.slice a 0 cap] w fun e w'=>e=.returned (.slice a 0 cap)∧w'=w:=Any.slices_Compact_int_empty Tryz.laysNm220 a cap w
open Go.RowKit Go.Sort in
theorem Tryz.slices_Sort_int_none (p:Option Addr) (cap:Nat) (w:World) :
 Calls prog 61 #[.slice p 0 cap] w fun e w'=>e=.returned (.tuple #[])∧w'=w:=Any.slices_Sort_int_none Tryz.lays189 p cap w
end Go.Proofs
