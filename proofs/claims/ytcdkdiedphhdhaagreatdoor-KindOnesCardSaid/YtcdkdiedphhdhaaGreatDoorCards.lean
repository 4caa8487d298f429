/-
  DERIVED. GIVEN WITH THE SEED: THE CARDS: each row of YtcdkdiedphhdhaaGreatDoorRows.lean that lists a variable, with what it lists TIED to the program's text (the seventh form; the later family's looks); each row that meets fmt, with fmt's text TOLD by the authors' own Lean function (tested against real Go, not proved from fmt's source: count such statements apart). THE CARD IS WHAT COUNTS. Prove the row's statement (the work); the ties are given (YtcdkdiedphhdhaaGreatDoorTie.lean); close each card by the builder's one call (the guide's Derived/Test/ToyasCard.lean, 'card_holds'). Laid BY PROGRAM, IN A SANDBOX (cutbox-door.mjs). By AI agents, Wed Nov 11 2026. No macro, syntax, notation, axiom, sorry.
-/
import Derived.Test.YtcdkdiedphhdhaaGreatDoorRows
import GoSem.ClaimSeven
namespace Go.Proofs.YtcdkdiedphhdhaaGreatDoor
namespace Rows

/-- THE TIED CARD OF 'mistlaw06.KindOnes'. -/
def kindOnesCard : Claim7 := { stood := { row := kindOnesRow, standIns := [], harness := (true, "433a41ff9603e6498df6b7c873e8a8df28346cb238423571c3a7e3b1e4595cc0"), looks := true }, kinds := [], alts := [], laidByText := true, laidKinds := [.data, .data, .data, .sentinel, .sentinel, .listed, .data], laidTests := true, laidLooks := .later }
def KindOnesCardSaid : Prop := Claim7.holds Tryz.pinned (.plain (OpenSpec.ofChange kindOnesSpec)) kindOnesCard

/-- THE TIED CARD OF 'mistlaw06.KindLies'. -/
def kindLiesCard : Claim7 := { stood := { row := kindLiesRow, standIns := [], harness := (true, "433a41ff9603e6498df6b7c873e8a8df28346cb238423571c3a7e3b1e4595cc0"), looks := true }, kinds := [], alts := [], laidByText := true, laidKinds := [.data, .data, .data, .sentinel, .sentinel, .listed, .data], laidTests := true, laidLooks := .later }
def KindLiesCardSaid : Prop := Claim7.holds Tryz.pinned (.plain (OpenSpec.ofChange kindLiesSpec)) kindLiesCard

/-- THE TIED CARD OF 'mistlaw06.KindRenamed'. -/
def kindRenamedCard : Claim7 := { stood := { row := kindRenamedRow, standIns := [], harness := (true, "433a41ff9603e6498df6b7c873e8a8df28346cb238423571c3a7e3b1e4595cc0"), looks := true }, kinds := [], alts := [], laidByText := true, laidKinds := [.data, .data, .data, .sentinel, .sentinel, .listed, .data], laidTests := true, laidLooks := .later }
def KindRenamedCardSaid : Prop := Claim7.holds Tryz.pinned (.plain (OpenSpec.ofChange kindRenamedSpec)) kindRenamedCard

/-- THE SECOND FORM's CARD OF 'mistlaw06.KindOnes'. -/
def kindOnesUptoCard : Claim7 := { stood := { row := kindOnesUptoRow, standIns := [], harness := (true, "433a41ff9603e6498df6b7c873e8a8df28346cb238423571c3a7e3b1e4595cc0"), looks := true }, kinds := [], alts := [], laidByText := true, laidKinds := [.data, .data, .data, .sentinel, .sentinel, .listed, .data], laidTests := true, laidLooks := .later }
def KindOnesUptoCardSaid : Prop := Claim7.holds Tryz.pinned (.plain (OpenSpec.upto kindOnesSpec)) kindOnesUptoCard

/-- THE SECOND FORM's CARD OF 'mistlaw06.KindLies'. -/
def kindLiesUptoCard : Claim7 := { stood := { row := kindLiesUptoRow, standIns := [], harness := (true, "433a41ff9603e6498df6b7c873e8a8df28346cb238423571c3a7e3b1e4595cc0"), looks := true }, kinds := [], alts := [], laidByText := true, laidKinds := [.data, .data, .data, .sentinel, .sentinel, .listed, .data], laidTests := true, laidLooks := .later }
def KindLiesUptoCardSaid : Prop := Claim7.holds Tryz.pinned (.plain (OpenSpec.upto kindLiesSpec)) kindLiesUptoCard

/-- THE SECOND FORM's CARD OF 'mistlaw06.KindRenamed'. -/
def kindRenamedUptoCard : Claim7 := { stood := { row := kindRenamedUptoRow, standIns := [], harness := (true, "433a41ff9603e6498df6b7c873e8a8df28346cb238423571c3a7e3b1e4595cc0"), looks := true }, kinds := [], alts := [], laidByText := true, laidKinds := [.data, .data, .data, .sentinel, .sentinel, .listed, .data], laidTests := true, laidLooks := .later }
def KindRenamedUptoCardSaid : Prop := Claim7.holds Tryz.pinned (.plain (OpenSpec.upto kindRenamedSpec)) kindRenamedUptoCard
end Rows
end Go.Proofs.YtcdkdiedphhdhaaGreatDoor
