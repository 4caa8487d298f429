/- Part of a proof. -/
import Derived.Test.YtipjhljnkocioaaGreatDoorP09
import Derived.BigRegion
set_option maxRecDepth 100000
set_option maxHeartbeats 8000000
set_option linter.unusedVariables false
set_option linter.unusedSimpArgs false
namespace Go.Proofs.YtipjhljnkocioaaGreatDoor
section
open Go.RowKit
theorem MR{w wr:World}{v v':TreeV}{t t':Tr}(hb:Below (w.heap.size+1+1) (boxT (boxT w v t) v' t') wr)(h:IsTree w v t)(h':IsTree w v' t') :
 (wr.cell? ⟨w.heap.size,0,none⟩=some (.slice v.na t.nodes.length v.nc)∧wr.cell? ⟨w.heap.size,1,none⟩=some (.slice v.ia t.items.length v.ic)) ∧
 (wr.cell? ⟨w.heap.size+1,0,none⟩=some (.slice v'.na t'.nodes.length v'.nc)∧wr.cell? ⟨w.heap.size+1,1,none⟩=some (.slice v'.ia t'.items.length v'.ic)) ∧
 (w.heap.size+1+1≤wr.heap.size∧w.heap.size<wr.heap.size∧w.heap.size+1<wr.heap.size)∧Below w.heap.size w wr:=by
 have h1:Below ((boxT w v t).heap.size+1) (boxT (boxT w v t) v' t') wr:=by simpa using hb
 obtain⟨k1,k2,-,⟨k4,k5,k6⟩,k7⟩:=boxed h1 (h'.mono boxT_below nlr);have k7':Below (w.heap.size+1) (boxT w v t) wr:=by simpa using k7
 obtain⟨l1,l2,-,⟨l4,l5,l6⟩,l7⟩:=boxed k7' h;simp only[World.size_alloc]at k1 k2 k4;exact⟨⟨l1,l2⟩,⟨k1,k2⟩,⟨k4,l5,by omega⟩,l7⟩
theorem MD{α:Type}{a b:List α}(hl:a.length=b.length){k:Nat}(hk:k<a.length)(h:a.take k=b.take k)(he:a[k]=b[k]'(by omega)):a.take (k+1)=b.take (k+1):=by
 rw[List.take_succ_eq_append_getElem hk,List.take_succ_eq_append_getElem (by omega),h,he]
end
end Go.Proofs.YtipjhljnkocioaaGreatDoor
