/- Part of a proof. -/
import Derived.Test.YtcdkdiedphhdhaaGreatDoorProg
import Derived.Shelf.Bits.Mul64
import Derived.Shelf.LaysM
set_option maxRecDepth 100000
set_option maxHeartbeats 8000000
set_option linter.unusedVariables false
set_option linter.unusedSimpArgs false
open Go.Proofs.Tryz
namespace Go.Proofs
open Go.Shelf
def Tryz.lays212_ren:Go.Shelf.Ren:=⟨fun|212=>120|263=>157|264=>158|n=>n,fun|46=>172|51=>158|146=>159|53=>194|148=>216|n=>n,fun|n=>n⟩
theorem Tryz.lays212:Go.Proofs.Lays.n212 prog Tryz.lays212_ren:={
 mixed:=by kernel_rfl
 f212:=func120.trans (congrArg some (by kernel_rfl))
 f263:=func157.trans (congrArg some (by kernel_rfl))
 f264:=func158.trans (congrArg some (by kernel_rfl))
 t46:=underlying172
 a46:=isAgg172
 z46:=sizeOf172
 v46:=zeroValue172
 t51:=underlying158
 a51:=isAgg158
 z51:=sizeOf158
 v51:=zeroValue158
 t53:=underlying194
 a53:=isAgg194
 z53:=sizeOf194
 v53:=zeroValue194
 t146:=underlying159
 a146:=isAgg159
 z146:=sizeOf159
 v146:=zeroValue159
 t148:=underlying216
 a148:=isAgg216
 z148:=sizeOf216
 v148:=zeroValue216 }
open Go.RowKit Go.Lib in
theorem Tryz.bits_Mul (x y:Nat) (hx:x<18446744073709551616) (hy:y<18446744073709551616) (w:World) :
 Calls prog 120 #[.int .u64 x,.int .u64 y] w fun e w'=>e=.returned (.tuple #[.int .u64 ((x*y / 18446744073709551616:Nat):Int),.int .u64 ((x*y % 18446744073709551616:Nat):Int)])/\w'=w:=Any.bits_Mul Tryz.lays212 x y hx hy w
end Go.Proofs
