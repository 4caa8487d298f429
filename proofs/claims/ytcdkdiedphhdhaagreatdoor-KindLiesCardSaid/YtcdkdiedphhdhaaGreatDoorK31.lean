/- Part of a proof. -/
import Derived.Test.YtcdkdiedphhdhaaGreatDoorRows
import Derived.Test.YtcdkdiedphhdhaaGreatDoorK12
import Derived.Test.YtcdkdiedphhdhaaGreatDoorK15
import Derived.ProofKit
import Derived.OpenShut
import Derived.Carry
import Derived.ChangeSlices
import Derived.SliceStrings
import Derived.Deep.Slices
import Derived.LaidMore
import Derived.Lib.LaidTab
import Derived.Stop.LaidErr
set_option maxRecDepth 100000
set_option maxHeartbeats 8000000
set_option linter.unusedVariables false
set_option linter.unusedSimpArgs false
open Go.Proofs.Tryz
namespace Go.Proofs.YtcdkdiedphhdhaaGreatDoor
section
open Go.ChangeShapes Go.WideShapes Go.ChangeAt Go.RowKit
theorem MZ:laidOutB prog=true:=by kernel_rfl
section
variable {H : Type} {enc : TypeId × Value -> H} {P : Program}
end
section
variable {H : Type} {enc : TypeId × Value -> H} {W : World} {v : Value} {d : DataW H} {ps : List MemPlace} {base : Nat}
end
end
end Go.Proofs.YtcdkdiedphhdhaaGreatDoor
