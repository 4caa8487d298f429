/- Part of a proof. -/
import Derived.Test.YtokdgiphdnjeoaaGreatDoorProg
import Derived.Shelf.Bits.Mul64
import Derived.Shelf.LaysM
set_option maxRecDepth 100000
set_option maxHeartbeats 8000000
set_option linter.unusedVariables false
set_option linter.unusedSimpArgs false
open Go.Proofs.Tryz
namespace Go.Proofs
open Go.Shelf
def Tryz.lays212_ren:Go.Shelf.Ren:=⟨fun|212=>246|263=>295|264=>296|n=>n,fun|46=>175|51=>212|146=>232|53=>214|148=>288|n=>n,fun|n=>n⟩
theorem Tryz.lays212:Go.Proofs.Lays.n212 prog Tryz.lays212_ren:={
 mixed:=by kernel_rfl
 f212:=func246.trans (congrArg some (by kernel_rfl))
 f263:=func295.trans (congrArg some (by kernel_rfl))
 f264:=func296.trans (congrArg some (by kernel_rfl))
 t46:=underlying175
 a46:=isAgg175
 z46:=sizeOf175
 v46:=zeroValue175
 t51:=underlying212
 a51:=isAgg212
 z51:=sizeOf212
 v51:=zeroValue212
 t53:=underlying214
 a53:=isAgg214
 z53:=sizeOf214
 v53:=zeroValue214
 t146:=underlying232
 a146:=isAgg232
 z146:=sizeOf232
 v146:=zeroValue232
 t148:=underlying288
 a148:=isAgg288
 z148:=sizeOf288
 v148:=zeroValue288 }
open Go.RowKit Go.Lib in
theorem Tryz.bits_Mul (x y:Nat) (hx:x<18446744073709551616) (hy:y<18446744073709551616) (w:World) :
 Calls prog 246 #[.int .u64 x,.int .u64 y] w fun e w'=>e=.returned (.tuple #[.int .u64 ((x*y / 18446744073709551616:Nat):Int),.int .u64 ((x*y % 18446744073709551616:Nat):Int)])∧w'=w:=Any.bits_Mul Tryz.lays212 x y hx hy w
end Go.Proofs
