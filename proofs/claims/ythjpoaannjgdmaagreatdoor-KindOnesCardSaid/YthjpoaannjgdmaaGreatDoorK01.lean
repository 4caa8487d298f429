/- Part of a proof. -/
import Derived.Test.YthjpoaannjgdmaaGreatDoorProg
import Derived.Shelf.Bits.Mul64
import Derived.Shelf.LaysM
set_option maxRecDepth 100000
set_option maxHeartbeats 8000000
set_option linter.unusedVariables false
set_option linter.unusedSimpArgs false
open Go.Proofs.Tryz
namespace Go.Proofs
open Go.Shelf
def Tryz.lays212_ren:Go.Shelf.Ren:=⟨fun|212=>116|263=>152|264=>153|n=>n,fun|46=>169|51=>146|146=>147|53=>182|148=>206|n=>n,fun|n=>n⟩
theorem Tryz.lays212:Go.Proofs.Lays.n212 prog Tryz.lays212_ren:={
 mixed:=by kernel_rfl
 f212:=func116.trans (congrArg some (by kernel_rfl))
 f263:=func152.trans (congrArg some (by kernel_rfl))
 f264:=func153.trans (congrArg some (by kernel_rfl))
 t46:=underlying169
 a46:=isAgg169
 z46:=sizeOf169
 v46:=zeroValue169
 t51:=underlying146
 a51:=isAgg146
 z51:=sizeOf146
 v51:=zeroValue146
 t53:=underlying182
 a53:=isAgg182
 z53:=sizeOf182
 v53:=zeroValue182
 t146:=underlying147
 a146:=isAgg147
 z146:=sizeOf147
 v146:=zeroValue147
 t148:=underlying206
 a148:=isAgg206
 z148:=sizeOf206
 v148:=zeroValue206 }
open Go.RowKit Go.Lib in
theorem Tryz.bits_Mul (x y:Nat) (hx:x<18446744073709551616) (hy:y<18446744073709551616) (w:World) :
 Calls prog 116 #[.int .u64 x,.int .u64 y] w fun e w'=>e=.returned (.tuple #[.int .u64 ((x*y / 18446744073709551616:Nat):Int),.int .u64 ((x*y % 18446744073709551616:Nat):Int)])/\w'=w:=Any.bits_Mul Tryz.lays212 x y hx hy w
end Go.Proofs
