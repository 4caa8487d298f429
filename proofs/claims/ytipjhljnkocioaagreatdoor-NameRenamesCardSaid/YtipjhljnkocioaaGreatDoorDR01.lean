/- Part of a proof. -/
import Derived.Test.YtipjhljnkocioaaGreatDoorC10
set_option maxRecDepth 100000
set_option maxHeartbeats 8000000
set_option linter.unusedVariables false
set_option linter.unusedSimpArgs false
namespace Go.Proofs.YtipjhljnkocioaaGreatDoor
section
open Go.RowKit
theorem PF{k:Nat}{w w':World}{a:Option Addr}{n c B:Nat}{xs:List Value}(h:Row k w a n c xs)(hB:∀x,a=some x→x.block<B)(hb:Below B w w'):Row k w' a n c xs:=by
 obtain⟨h1,h2,h3,h4⟩:=h;refine⟨h1,h2,h3,?_⟩;rcases h4 with h4|⟨b,o,e,hlt,hc⟩
 ·exact .inl h4
 ·exact .inr ⟨b,o,e,Nat.lt_of_lt_of_le hlt hb.size,fun i hi=>(hb.cell (p:=⟨b,o+i,none⟩) (hB ⟨b,o,none⟩ e)).trans (hc i hi)⟩
end
end Go.Proofs.YtipjhljnkocioaaGreatDoor
