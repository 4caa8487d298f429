/- Part of a proof. -/
import Derived.Test.YtipjhljnkocioaaGreatDoorC39
import Derived.Test.YtipjhljnkocioaaGreatDoorDN03
set_option maxRecDepth 100000
set_option maxHeartbeats 8000000
set_option linter.unusedVariables false
set_option linter.unusedSimpArgs false
namespace Go.Proofs.YtipjhljnkocioaaGreatDoor
section
open Go Go.RowKit
theorem ON{t:Tr}(h:(zc t).2.2=0):Resolved t:=by
 by_cases hc:aU t=0
 ·refine⟨hc,?_⟩
  suffices hs:∀f m,m<f→m<t.nodes.length→cI t m=0 from fun m hm=>hs (m+1) m (by omega) hm
  intro f
  induction f with
  |zero=>intro m hm;omega
  | succ f ih=>
    intro m hm hl;by_cases he:cI t m=0
    ·exact he
    ·exfalso
     have:=pQ hc hl (fun j hj=>ih j (by omega) (by omega)) he;rw[this]at h;exact he h
 ·exfalso
  unfold zc at h;rw[if_pos (by simpa using hc)]at h;exact hc h
theorem OT{t:Tr}(bd:Bd t)(h:(zc t).2.2=0):WF t∧Good t (dB t):=⟨zT bd (ON h).check,fS (aX (ON h).check)⟩
end
end Go.Proofs.YtipjhljnkocioaaGreatDoor
