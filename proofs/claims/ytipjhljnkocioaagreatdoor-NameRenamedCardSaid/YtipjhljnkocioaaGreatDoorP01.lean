/- Part of a proof. -/
import Derived.Test.YtipjhljnkocioaaGreatDoorProg
import Derived.Shelf.Bits.Mul64
import Derived.Shelf.LaysM
set_option maxRecDepth 100000
set_option maxHeartbeats 8000000
set_option linter.unusedVariables false
set_option linter.unusedSimpArgs false
open Go.Proofs.Tryz
namespace Go.Proofs
open Go.Shelf
def Tryz.lays212_ren:Go.Shelf.Ren:=⟨fun|212=>156|263=>205|264=>206|n=>n,fun|46=>117|51=>138|146=>191|53=>140|148=>193|n=>n,fun|n=>n⟩
theorem Tryz.lays212:Go.Proofs.Lays.n212 prog Tryz.lays212_ren:={
 mixed:=by kernel_rfl
 f212:=func156.trans (congrArg some (by kernel_rfl))
 f263:=func205.trans (congrArg some (by kernel_rfl))
 f264:=func206.trans (congrArg some (by kernel_rfl))
 t46:=underlying117
 a46:=isAgg117
 z46:=sizeOf117
 v46:=zeroValue117
 t51:=underlying138
 a51:=isAgg138
 z51:=sizeOf138
 v51:=zeroValue138
 t53:=underlying140
 a53:=isAgg140
 z53:=sizeOf140
 v53:=zeroValue140
 t146:=underlying191
 a146:=isAgg191
 z146:=sizeOf191
 v146:=zeroValue191
 t148:=underlying193
 a148:=isAgg193
 z148:=sizeOf193
 v148:=zeroValue193 }
open Go.RowKit Go.Lib in
theorem Tryz.bits_Mul (x y:Nat) (hx:x<18446744073709551616) (hy:y<18446744073709551616) (w:World) :
 Calls prog 156 #[.int .u64 x,.int .u64 y] w fun e w'=>e=.returned (.tuple #[.int .u64 ((x*y / 18446744073709551616:Nat):Int),.int .u64 ((x*y % 18446744073709551616:Nat):Int)])∧w'=w:=Any.bits_Mul Tryz.lays212 x y hx hy w
end Go.Proofs
