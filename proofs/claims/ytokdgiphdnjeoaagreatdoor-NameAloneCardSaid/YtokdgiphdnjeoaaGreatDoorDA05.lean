/- Part of a proof. -/
import Derived.Test.YtokdgiphdnjeoaaGreatDoorDA02
import Derived.Test.YtokdgiphdnjeoaaGreatDoorQ37
set_option maxRecDepth 100000
set_option maxHeartbeats 8000000
set_option linter.unusedVariables false
set_option linter.unusedSimpArgs false
namespace Go.Proofs.YtokdgiphdnjeoaaGreatDoor
section
open Go Go.RowKit
theorem QA{t:Tr}{i:Nat}(hi:i<t.nodes.length):(zg t t.nodes.length)[i]?=some (means t i):=by
 rw[bL,List.getElem?_map,List.getElem?_range hi];rfl
end
end Go.Proofs.YtokdgiphdnjeoaaGreatDoor
