/- Part of a proof. -/
import Derived.Test.YtipjhljnkocioaaGreatDoorRows
import Derived.Test.YtipjhljnkocioaaGreatDoorC33
set_option maxRecDepth 100000
set_option maxHeartbeats 8000000
set_option linter.unusedVariables false
set_option linter.unusedSimpArgs false
open Go.Proofs.Tryz
namespace Go.Proofs.YtipjhljnkocioaaGreatDoor
section
open Go.ChangeShapes Go.WideShapes Go.ChangeAt Go.RowKit
section
variable {H : Type} {enc : TypeId × Value → H} {P : Program}
end
section
variable {H : Type} {enc : TypeId × Value → H} {W : World} {v : Value} {d : DataW H} {ps : List MemPlace} {base : Nat}
theorem PO(hval:Value.okWide prog W .any base 9 v)(h:DataW.Trod enc prog W 0 (fun _=>true) true 9 v d ps):∃l:List UInt8,v=strV l∧l.length≤maxLen:=by
 obtain⟨s,rfl,_,_,hs⟩:=Go.ChangeMaps.open_string underlying9 hval h;exact⟨s.data.toList,rfl,by simpa using hs⟩
end
end
end Go.Proofs.YtipjhljnkocioaaGreatDoor
