/- Part of a proof. -/
import Derived.Test.YtcdkdiedphhdhaaGreatDoorK12
set_option maxRecDepth 100000
set_option maxHeartbeats 8000000
set_option linter.unusedVariables false
set_option linter.unusedSimpArgs false
namespace Go.Proofs.YtcdkdiedphhdhaaGreatDoor
section
open Go.RowKit
theorem OwnN.at{w:World}{B c:Nat}{a:Option Addr}{ns:List Nd}{ks:List (Option Addr×Nat)}(h:OwnN w B a c ns ks)(h0:0<ns.length) :
 ∃nb,a=some ⟨nb,0,none⟩/\B<=nb/\nb<w.heap.size/\(∀j,w.frozen? ⟨nb,j,none⟩=false):=by
 rcases h.own.2 with⟨h',h1⟩|⟨g,cap,cur,h',hb,hg,_⟩
 .have:=h.own.1
  rw[h1]at this;simp at this;omega
 .simp only[Value.slice.injEq,true_and]at h'
  obtain⟨rfl,rfl⟩:=h';exact⟨g,rfl,hb,(Array.getElem?_eq_some_iff.1 hg).1,fun i=>h.own.frozenAt i⟩
end
end Go.Proofs.YtcdkdiedphhdhaaGreatDoor
