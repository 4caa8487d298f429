/- Part of a proof. -/
import Derived.Test.YtcdkdiedphhdhaaGreatDoorK08
import Derived.BigRegion
set_option maxRecDepth 100000
set_option maxHeartbeats 8000000
set_option linter.unusedVariables false
set_option linter.unusedSimpArgs false
namespace Go.Proofs.YtcdkdiedphhdhaaGreatDoor
section
open Go Go.RowKit
def mM(n d:Int):Bool:=if n==3 then d==40||d==43||d==20||d==34 else if n==21 then d==42 else if n==24||n==32 then d==41 else n==45&&d==44
theorem KN{n d:Int}(h:bD n=true):mM n d=suits n d:=by
 unfold mM suits bD at *;simp only[Bool.or_eq_true,beq_iff_eq]at h;rcases h with(((rfl|rfl) | rfl) | rfl) | rfl<;>rfl
end
end Go.Proofs.YtcdkdiedphhdhaaGreatDoor
