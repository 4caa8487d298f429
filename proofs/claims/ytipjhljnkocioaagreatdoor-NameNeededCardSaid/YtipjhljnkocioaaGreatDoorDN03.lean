/- Part of a proof. -/
import Derived.Test.YtipjhljnkocioaaGreatDoorC37
import Derived.Test.YtipjhljnkocioaaGreatDoorDN01
set_option maxRecDepth 100000
set_option maxHeartbeats 8000000
set_option linter.unusedVariables false
set_option linter.unusedSimpArgs false
namespace Go.Proofs.YtipjhljnkocioaaGreatDoor
section
open Go.RowKit
theorem PB{t:Tr}{S:List Int}(wf:WF t)(G:Good t S){item:Nat}(hi:item<t.items.length){L M:List Int}(h:NeedL t (zh t t.nodes.length) item L)(hr:∀x,x∈L↔Reach t (zh t t.nodes.length) item x)
 (hM:M.Nodup)(hm:∀x,x∈M↔x≠(item:Int)∧NS t (zh t t.nodes.length) item (item+1) x):bM M=bM L.tail:=by
 obtain⟨r,rfl⟩:=h.head;obtain⟨hnd1,hnd2⟩:=List.nodup_cons.1 h.nodup
 have hp:M.Perm r:=(List.perm_ext_iff_of_nodup hM hnd2).2 fun x=>by
  rw[hm,NS.reach wf G,←hr];constructor
  ·rintro⟨h1,h2⟩
   rcases List.mem_cons.1 h2 with e|e
   ·exact absurd e h1
   ·exact e
  ·intro hx
   exact⟨fun e=>hnd1 (e▸hx),List.mem_cons_of_mem _ hx⟩
 exact cC ((cK M).trans hp) (dD _)
end
end Go.Proofs.YtipjhljnkocioaaGreatDoor
