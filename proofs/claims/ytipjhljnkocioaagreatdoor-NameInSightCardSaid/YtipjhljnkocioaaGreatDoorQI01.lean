/- Part of a proof. -/
import Derived.Test.YtipjhljnkocioaaGreatDoorP06
set_option maxRecDepth 100000
set_option maxHeartbeats 8000000
set_option linter.unusedVariables false
set_option linter.unusedSimpArgs false
namespace Go.Proofs.YtipjhljnkocioaaGreatDoor
section
open Go.RowKit
theorem MU(l:List (List UInt8)):∀u∈l.map strV,u.oneCell'=true:=by
 intro u hu;obtain⟨c,_,rfl⟩:=List.mem_map.1 hu;rfl
section
variable {P : Program} {T : TypeId} {k : Nat} {w : World} {a : Option Addr} {n c : Nat} {xs : List Value}
end
end
end Go.Proofs.YtipjhljnkocioaaGreatDoor
