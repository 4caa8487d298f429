/-
  DERIVED. GIVEN WITH THE SEED: THE CARDS: each row of YtokdgiphdnjeoaaGreatDoorRows.lean that lists a variable, with what it lists TIED to the program's text (the seventh form; the later family's looks); each row that meets fmt, with fmt's text TOLD by the authors' own Lean function (tested against real Go, not proved from fmt's source: count such statements apart). THE CARD IS WHAT COUNTS. Prove the row's statement (the work); the ties are given (YtokdgiphdnjeoaaGreatDoorTie.lean); close each card by the builder's one call (the guide's Derived/Test/ToyasCard.lean, 'card_holds'). Laid BY PROGRAM, IN A SANDBOX (cutbox-door.mjs). By AI agents, Wed Nov 11 2026. No macro, syntax, notation, axiom, sorry.
-/
import Derived.Test.YtokdgiphdnjeoaaGreatDoorRows
import GoSem.ClaimSeven
namespace Go.Proofs.YtokdgiphdnjeoaaGreatDoor
namespace Rows

/-- THE TIED CARD OF 'mistlaw06.KindInfers'. -/
def kindInfersCard : Claim7 := { stood := { row := kindInfersRow, standIns := [], harness := (true, "5c103948e384fe42197b03091b5e53ea978bc3e550ecd54fe2aa89590521a6d1"), looks := true }, kinds := [], alts := [], laidByText := true, laidKinds := [.data, .data, .data, .sentinel, .sentinel, .listed, .data], laidTests := true, laidLooks := .later }
def KindInfersCardSaid : Prop := Claim7.holds Tryz.pinned (.plain (OpenSpec.ofChange kindInfersSpec)) kindInfersCard

/-- THE TIED CARD OF 'mistlaw06.KindChecks'. -/
def kindChecksCard : Claim7 := { stood := { row := kindChecksRow, standIns := [], harness := (true, "5c103948e384fe42197b03091b5e53ea978bc3e550ecd54fe2aa89590521a6d1"), looks := true }, kinds := [], alts := [], laidByText := true, laidKinds := [.data, .data, .data, .sentinel, .sentinel, .listed, .data], laidTests := true, laidLooks := .later }
def KindChecksCardSaid : Prop := Claim7.holds Tryz.pinned (.plain (OpenSpec.ofChange kindChecksSpec)) kindChecksCard

/-- THE TIED CARD OF 'mistlaw06.KindCells'. -/
def kindCellsCard : Claim7 := { stood := { row := kindCellsRow, standIns := [], harness := (true, "5c103948e384fe42197b03091b5e53ea978bc3e550ecd54fe2aa89590521a6d1"), looks := true }, kinds := [], alts := [], laidByText := true, laidKinds := [.data, .data, .data, .sentinel, .sentinel, .listed, .data], laidTests := true, laidLooks := .later }
def KindCellsCardSaid : Prop := Claim7.holds Tryz.pinned (.plain (OpenSpec.ofChange kindCellsSpec)) kindCellsCard

/-- THE TIED CARD OF 'mistlaw06.KindWeighs'. -/
def kindWeighsCard : Claim7 := { stood := { row := kindWeighsRow, standIns := [], harness := (true, "5c103948e384fe42197b03091b5e53ea978bc3e550ecd54fe2aa89590521a6d1"), looks := true }, kinds := [], alts := [], laidByText := true, laidKinds := [.data, .data, .data, .sentinel, .sentinel, .listed, .data], laidTests := true, laidLooks := .later }
def KindWeighsCardSaid : Prop := Claim7.holds Tryz.pinned (.plain (OpenSpec.ofChange kindWeighsSpec)) kindWeighsCard

/-- THE TIED CARD OF 'mistlaw06.KindOnes'. -/
def kindOnesCard : Claim7 := { stood := { row := kindOnesRow, standIns := [], harness := (true, "5c103948e384fe42197b03091b5e53ea978bc3e550ecd54fe2aa89590521a6d1"), looks := true }, kinds := [], alts := [], laidByText := true, laidKinds := [.data, .data, .data, .sentinel, .sentinel, .listed, .data], laidTests := true, laidLooks := .later }
def KindOnesCardSaid : Prop := Claim7.holds Tryz.pinned (.plain (OpenSpec.ofChange kindOnesSpec)) kindOnesCard

/-- THE TIED CARD OF 'mistlaw06.KindLets'. -/
def kindLetsCard : Claim7 := { stood := { row := kindLetsRow, standIns := [], harness := (true, "5c103948e384fe42197b03091b5e53ea978bc3e550ecd54fe2aa89590521a6d1"), looks := true }, kinds := [], alts := [], laidByText := true, laidKinds := [.data, .data, .data, .sentinel, .sentinel, .listed, .data], laidTests := true, laidLooks := .later }
def KindLetsCardSaid : Prop := Claim7.holds Tryz.pinned (.plain (OpenSpec.ofChange kindLetsSpec)) kindLetsCard

/-- THE TIED CARD OF 'mistlaw06.KindPlaces'. -/
def kindPlacesCard : Claim7 := { stood := { row := kindPlacesRow, standIns := [], harness := (true, "5c103948e384fe42197b03091b5e53ea978bc3e550ecd54fe2aa89590521a6d1"), looks := true }, kinds := [], alts := [], laidByText := true, laidKinds := [.data, .data, .data, .sentinel, .sentinel, .listed, .data], laidTests := true, laidLooks := .later }
def KindPlacesCardSaid : Prop := Claim7.holds Tryz.pinned (.plain (OpenSpec.ofChange kindPlacesSpec)) kindPlacesCard

/-- THE TIED CARD OF 'mistlaw06.KindLies'. -/
def kindLiesCard : Claim7 := { stood := { row := kindLiesRow, standIns := [], harness := (true, "5c103948e384fe42197b03091b5e53ea978bc3e550ecd54fe2aa89590521a6d1"), looks := true }, kinds := [], alts := [], laidByText := true, laidKinds := [.data, .data, .data, .sentinel, .sentinel, .listed, .data], laidTests := true, laidLooks := .later }
def KindLiesCardSaid : Prop := Claim7.holds Tryz.pinned (.plain (OpenSpec.ofChange kindLiesSpec)) kindLiesCard

/-- THE TIED CARD OF 'mistlaw06.KindRenamed'. -/
def kindRenamedCard : Claim7 := { stood := { row := kindRenamedRow, standIns := [], harness := (true, "5c103948e384fe42197b03091b5e53ea978bc3e550ecd54fe2aa89590521a6d1"), looks := true }, kinds := [], alts := [], laidByText := true, laidKinds := [.data, .data, .data, .sentinel, .sentinel, .listed, .data], laidTests := true, laidLooks := .later }
def KindRenamedCardSaid : Prop := Claim7.holds Tryz.pinned (.plain (OpenSpec.ofChange kindRenamedSpec)) kindRenamedCard

/-- THE TIED CARD OF 'mistlaw06.KindAlone'. -/
def kindAloneCard : Claim7 := { stood := { row := kindAloneRow, standIns := [], harness := (true, "5c103948e384fe42197b03091b5e53ea978bc3e550ecd54fe2aa89590521a6d1"), looks := true }, kinds := [], alts := [], laidByText := true, laidKinds := [.data, .data, .data, .sentinel, .sentinel, .listed, .data], laidTests := true, laidLooks := .later }
def KindAloneCardSaid : Prop := Claim7.holds Tryz.pinned (.plain (OpenSpec.ofChange kindAloneSpec)) kindAloneCard

/-- THE TIED CARD OF 'mistlaw05.NameAlone'. -/
def nameAloneCard : Claim7 := { stood := { row := nameAloneRow, standIns := [], harness := (true, "5c103948e384fe42197b03091b5e53ea978bc3e550ecd54fe2aa89590521a6d1"), looks := true }, kinds := [], alts := [], laidByText := true, laidKinds := [.data, .data, .data, .sentinel, .sentinel, .listed, .data], laidTests := true, laidLooks := .later }
def NameAloneCardSaid : Prop := Claim7.holds Tryz.pinned (.plain (OpenSpec.ofChange nameAloneSpec)) nameAloneCard

/-- THE SECOND FORM's CARD OF 'mistlaw06.KindInfers'. -/
def kindInfersUptoCard : Claim7 := { stood := { row := kindInfersUptoRow, standIns := [], harness := (true, "5c103948e384fe42197b03091b5e53ea978bc3e550ecd54fe2aa89590521a6d1"), looks := true }, kinds := [], alts := [], laidByText := true, laidKinds := [.data, .data, .data, .sentinel, .sentinel, .listed, .data], laidTests := true, laidLooks := .later }
def KindInfersUptoCardSaid : Prop := Claim7.holds Tryz.pinned (.plain (OpenSpec.upto kindInfersSpec)) kindInfersUptoCard

/-- THE SECOND FORM's CARD OF 'mistlaw06.KindChecks'. -/
def kindChecksUptoCard : Claim7 := { stood := { row := kindChecksUptoRow, standIns := [], harness := (true, "5c103948e384fe42197b03091b5e53ea978bc3e550ecd54fe2aa89590521a6d1"), looks := true }, kinds := [], alts := [], laidByText := true, laidKinds := [.data, .data, .data, .sentinel, .sentinel, .listed, .data], laidTests := true, laidLooks := .later }
def KindChecksUptoCardSaid : Prop := Claim7.holds Tryz.pinned (.plain (OpenSpec.upto kindChecksSpec)) kindChecksUptoCard

/-- THE SECOND FORM's CARD OF 'mistlaw06.KindCells'. -/
def kindCellsUptoCard : Claim7 := { stood := { row := kindCellsUptoRow, standIns := [], harness := (true, "5c103948e384fe42197b03091b5e53ea978bc3e550ecd54fe2aa89590521a6d1"), looks := true }, kinds := [], alts := [], laidByText := true, laidKinds := [.data, .data, .data, .sentinel, .sentinel, .listed, .data], laidTests := true, laidLooks := .later }
def KindCellsUptoCardSaid : Prop := Claim7.holds Tryz.pinned (.plain (OpenSpec.upto kindCellsSpec)) kindCellsUptoCard

/-- THE SECOND FORM's CARD OF 'mistlaw06.KindWeighs'. -/
def kindWeighsUptoCard : Claim7 := { stood := { row := kindWeighsUptoRow, standIns := [], harness := (true, "5c103948e384fe42197b03091b5e53ea978bc3e550ecd54fe2aa89590521a6d1"), looks := true }, kinds := [], alts := [], laidByText := true, laidKinds := [.data, .data, .data, .sentinel, .sentinel, .listed, .data], laidTests := true, laidLooks := .later }
def KindWeighsUptoCardSaid : Prop := Claim7.holds Tryz.pinned (.plain (OpenSpec.upto kindWeighsSpec)) kindWeighsUptoCard

/-- THE SECOND FORM's CARD OF 'mistlaw06.KindOnes'. -/
def kindOnesUptoCard : Claim7 := { stood := { row := kindOnesUptoRow, standIns := [], harness := (true, "5c103948e384fe42197b03091b5e53ea978bc3e550ecd54fe2aa89590521a6d1"), looks := true }, kinds := [], alts := [], laidByText := true, laidKinds := [.data, .data, .data, .sentinel, .sentinel, .listed, .data], laidTests := true, laidLooks := .later }
def KindOnesUptoCardSaid : Prop := Claim7.holds Tryz.pinned (.plain (OpenSpec.upto kindOnesSpec)) kindOnesUptoCard

/-- THE SECOND FORM's CARD OF 'mistlaw06.KindLets'. -/
def kindLetsUptoCard : Claim7 := { stood := { row := kindLetsUptoRow, standIns := [], harness := (true, "5c103948e384fe42197b03091b5e53ea978bc3e550ecd54fe2aa89590521a6d1"), looks := true }, kinds := [], alts := [], laidByText := true, laidKinds := [.data, .data, .data, .sentinel, .sentinel, .listed, .data], laidTests := true, laidLooks := .later }
def KindLetsUptoCardSaid : Prop := Claim7.holds Tryz.pinned (.plain (OpenSpec.upto kindLetsSpec)) kindLetsUptoCard

/-- THE SECOND FORM's CARD OF 'mistlaw06.KindPlaces'. -/
def kindPlacesUptoCard : Claim7 := { stood := { row := kindPlacesUptoRow, standIns := [], harness := (true, "5c103948e384fe42197b03091b5e53ea978bc3e550ecd54fe2aa89590521a6d1"), looks := true }, kinds := [], alts := [], laidByText := true, laidKinds := [.data, .data, .data, .sentinel, .sentinel, .listed, .data], laidTests := true, laidLooks := .later }
def KindPlacesUptoCardSaid : Prop := Claim7.holds Tryz.pinned (.plain (OpenSpec.upto kindPlacesSpec)) kindPlacesUptoCard

/-- THE SECOND FORM's CARD OF 'mistlaw06.KindLies'. -/
def kindLiesUptoCard : Claim7 := { stood := { row := kindLiesUptoRow, standIns := [], harness := (true, "5c103948e384fe42197b03091b5e53ea978bc3e550ecd54fe2aa89590521a6d1"), looks := true }, kinds := [], alts := [], laidByText := true, laidKinds := [.data, .data, .data, .sentinel, .sentinel, .listed, .data], laidTests := true, laidLooks := .later }
def KindLiesUptoCardSaid : Prop := Claim7.holds Tryz.pinned (.plain (OpenSpec.upto kindLiesSpec)) kindLiesUptoCard

/-- THE SECOND FORM's CARD OF 'mistlaw06.KindRenamed'. -/
def kindRenamedUptoCard : Claim7 := { stood := { row := kindRenamedUptoRow, standIns := [], harness := (true, "5c103948e384fe42197b03091b5e53ea978bc3e550ecd54fe2aa89590521a6d1"), looks := true }, kinds := [], alts := [], laidByText := true, laidKinds := [.data, .data, .data, .sentinel, .sentinel, .listed, .data], laidTests := true, laidLooks := .later }
def KindRenamedUptoCardSaid : Prop := Claim7.holds Tryz.pinned (.plain (OpenSpec.upto kindRenamedSpec)) kindRenamedUptoCard

/-- THE SECOND FORM's CARD OF 'mistlaw06.KindAlone'. -/
def kindAloneUptoCard : Claim7 := { stood := { row := kindAloneUptoRow, standIns := [], harness := (true, "5c103948e384fe42197b03091b5e53ea978bc3e550ecd54fe2aa89590521a6d1"), looks := true }, kinds := [], alts := [], laidByText := true, laidKinds := [.data, .data, .data, .sentinel, .sentinel, .listed, .data], laidTests := true, laidLooks := .later }
def KindAloneUptoCardSaid : Prop := Claim7.holds Tryz.pinned (.plain (OpenSpec.upto kindAloneSpec)) kindAloneUptoCard

/-- THE SECOND FORM's CARD OF 'mistlaw05.NameAlone'. -/
def nameAloneUptoCard : Claim7 := { stood := { row := nameAloneUptoRow, standIns := [], harness := (true, "5c103948e384fe42197b03091b5e53ea978bc3e550ecd54fe2aa89590521a6d1"), looks := true }, kinds := [], alts := [], laidByText := true, laidKinds := [.data, .data, .data, .sentinel, .sentinel, .listed, .data], laidTests := true, laidLooks := .later }
def NameAloneUptoCardSaid : Prop := Claim7.holds Tryz.pinned (.plain (OpenSpec.upto nameAloneSpec)) nameAloneUptoCard
end Rows
end Go.Proofs.YtokdgiphdnjeoaaGreatDoor
