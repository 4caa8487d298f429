/- Part of a proof. -/
import Derived.Test.YtcdkdiedphhdhaaGreatDoorK24
import Derived.Test.YtcdkdiedphhdhaaGreatDoorK33
import Derived.Lib.SliceRun
set_option maxRecDepth 100000
set_option maxHeartbeats 8000000
set_option linter.unusedVariables false
set_option linter.unusedSimpArgs false
namespace Go.Proofs.YtcdkdiedphhdhaaGreatDoor
section
open Go Go.RowKit
theorem JL{W:World}{B:Nat}{e:TypeId}{k n c:Nat}{a:Option Addr}{xs:List Value}(h:W.ownsRow B e k (.slice a n c) n xs)(h0:0<n):∃nb,a=some ⟨nb,0,none⟩/\B<=nb/\nb<W.heap.size/\∀j,W.frozen? ⟨nb,j,none⟩=false:=by
 rcases h.2 with⟨h',h1⟩|⟨g,cap,cur,h',hb,hg,_⟩
 .omega
 .simp only[Value.slice.injEq,true_and]at h'
  obtain⟨rfl,rfl⟩:=h';exact⟨g,rfl,hb,(Array.getElem?_eq_some_iff.1 hg).1,fun i=>h.frozenAt i⟩
theorem tP{W:World}{B:Nat}{e:TypeId}{k n c:Nat}{a:Option Addr}{xs:List Value}(h:W.ownsRow B e k (.slice a n c) n xs){g:Nat}{cs:Array Value}{T:TypeId}(hg:W.heap[g]?=some (.cells cs T))(hT:(T==e)=false):∀y,a=some y->y.block≠g:=by
 rintro y rfl rfl;rcases h.2 with⟨h',h1⟩|⟨g2,cap,cur,h',hb,ha,_⟩
 .cases h'
 .simp only[Value.slice.injEq]at h'
  obtain⟨h',-⟩:=h';simp only[Option.some.injEq]at h';subst h';simp only at hg;rw[hg]at ha;simp only[Option.some.injEq,Obj.cells.injEq]at ha;rw[ha.2.1]at hT;simp at hT
end
end Go.Proofs.YtcdkdiedphhdhaaGreatDoor
