/- Part of a proof. -/
import Derived.Test.YtipjhljnkocioaaGreatDoorP35
set_option maxRecDepth 100000
set_option maxHeartbeats 8000000
set_option linter.unusedVariables false
set_option linter.unusedSimpArgs false
namespace Go.Proofs.YtipjhljnkocioaaGreatDoor
section
open Go.RowKit
theorem mem_idxs{p:Nat→Bool}{n:Nat}{x:Int}:x∈idxs p n↔∃i:Nat,i<n∧p i=true∧x=i:=by
 unfold idxs;simp only[List.mem_map,List.mem_filter,List.mem_range];constructor
 ·rintro⟨i,⟨h1,h2⟩,h3⟩;exact⟨i,h1,h2,h3.symm⟩
 ·rintro⟨i,h1,h2,h3⟩;exact⟨i,⟨h1,h2⟩,h3.symm⟩
end
end Go.Proofs.YtipjhljnkocioaaGreatDoor
