/-
  DERIVED. GIVEN WITH THE SEED: THE CARDS: each row of YtipjhljnkocioaaGreatDoorRows.lean that lists a variable, with what it lists TIED to the program's text (the seventh form; the later family's looks); each row that meets fmt, with fmt's text TOLD by the authors' own Lean function (tested against real Go, not proved from fmt's source: count such statements apart). THE CARD IS WHAT COUNTS. Prove the row's statement (the work); the ties are given (YtipjhljnkocioaaGreatDoorTie.lean); close each card by the builder's one call (the guide's Derived/Test/ToyasCard.lean, 'card_holds'). Laid BY PROGRAM, IN A SANDBOX (cutbox-door.mjs). By AI agents, Wed Nov 11 2026. No macro, syntax, notation, axiom, sorry.
-/
import Derived.Test.YtipjhljnkocioaaGreatDoorRows
import GoSem.ClaimSeven
namespace Go.Proofs.YtipjhljnkocioaaGreatDoor
namespace Rows

/-- THE TIED CARD OF 'mistlaw05.NameResolves'. -/
def nameResolvesCard : Claim7 := { stood := { row := nameResolvesRow, standIns := [], harness := (true, "a023823662ed6eaa4faa4cefff232a38bbf862f5b9de5d812835571d6efbf875"), looks := true }, kinds := [], alts := [], laidByText := true, laidKinds := [.data, .data, .data, .sentinel, .sentinel, .listed, .data], laidTests := true, laidLooks := .later }
def NameResolvesCardSaid : Prop := Claim7.holds Tryz.pinned (.plain (OpenSpec.ofChange nameResolvesSpec)) nameResolvesCard

/-- THE TIED CARD OF 'mistlaw05.NameSights'. -/
def nameSightsCard : Claim7 := { stood := { row := nameSightsRow, standIns := [], harness := (true, "a023823662ed6eaa4faa4cefff232a38bbf862f5b9de5d812835571d6efbf875"), looks := true }, kinds := [], alts := [], laidByText := true, laidKinds := [.data, .data, .data, .sentinel, .sentinel, .listed, .data], laidTests := true, laidLooks := .later }
def NameSightsCardSaid : Prop := Claim7.holds Tryz.pinned (.plain (OpenSpec.ofChange nameSightsSpec)) nameSightsCard

/-- THE TIED CARD OF 'mistlaw05.NameRenames'. -/
def nameRenamesCard : Claim7 := { stood := { row := nameRenamesRow, standIns := [], harness := (true, "a023823662ed6eaa4faa4cefff232a38bbf862f5b9de5d812835571d6efbf875"), looks := true }, kinds := [], alts := [], laidByText := true, laidKinds := [.data, .data, .data, .sentinel, .sentinel, .listed, .data], laidTests := true, laidLooks := .later }
def NameRenamesCardSaid : Prop := Claim7.holds Tryz.pinned (.plain (OpenSpec.ofChange nameRenamesSpec)) nameRenamesCard

/-- THE TIED CARD OF 'mistlaw05.NameNeeded'. -/
def nameNeededCard : Claim7 := { stood := { row := nameNeededRow, standIns := [], harness := (true, "a023823662ed6eaa4faa4cefff232a38bbf862f5b9de5d812835571d6efbf875"), looks := true }, kinds := [], alts := [], laidByText := true, laidKinds := [.data, .data, .data, .sentinel, .sentinel, .listed, .data], laidTests := true, laidLooks := .later }
def NameNeededCardSaid : Prop := Claim7.holds Tryz.pinned (.plain (OpenSpec.ofChange nameNeededSpec)) nameNeededCard

/-- THE TIED CARD OF 'mistlaw05.NameMeans'. -/
def nameMeansCard : Claim7 := { stood := { row := nameMeansRow, standIns := [], harness := (true, "a023823662ed6eaa4faa4cefff232a38bbf862f5b9de5d812835571d6efbf875"), looks := true }, kinds := [], alts := [], laidByText := true, laidKinds := [.data, .data, .data, .sentinel, .sentinel, .listed, .data], laidTests := true, laidLooks := .later }
def NameMeansCardSaid : Prop := Claim7.holds Tryz.pinned (.plain (OpenSpec.ofChange nameMeansSpec)) nameMeansCard

/-- THE TIED CARD OF 'mistlaw05.NameRenamed'. -/
def nameRenamedCard : Claim7 := { stood := { row := nameRenamedRow, standIns := [], harness := (true, "a023823662ed6eaa4faa4cefff232a38bbf862f5b9de5d812835571d6efbf875"), looks := true }, kinds := [], alts := [], laidByText := true, laidKinds := [.data, .data, .data, .sentinel, .sentinel, .listed, .data], laidTests := true, laidLooks := .later }
def NameRenamedCardSaid : Prop := Claim7.holds Tryz.pinned (.plain (OpenSpec.ofChange nameRenamedSpec)) nameRenamedCard

/-- THE TIED CARD OF 'mistlaw05.NameInSight'. -/
def nameInSightCard : Claim7 := { stood := { row := nameInSightRow, standIns := [], harness := (true, "a023823662ed6eaa4faa4cefff232a38bbf862f5b9de5d812835571d6efbf875"), looks := true }, kinds := [], alts := [], laidByText := true, laidKinds := [.data, .data, .data, .sentinel, .sentinel, .listed, .data], laidTests := true, laidLooks := .later }
def NameInSightCardSaid : Prop := Claim7.holds Tryz.pinned (.plain (OpenSpec.ofChange nameInSightSpec)) nameInSightCard

/-- THE TIED CARD OF 'mistlaw05.NameFrees'. -/
def nameFreesCard : Claim7 := { stood := { row := nameFreesRow, standIns := [], harness := (true, "a023823662ed6eaa4faa4cefff232a38bbf862f5b9de5d812835571d6efbf875"), looks := true }, kinds := [], alts := [], laidByText := true, laidKinds := [.data, .data, .data, .sentinel, .sentinel, .listed, .data], laidTests := true, laidLooks := .later }
def NameFreesCardSaid : Prop := Claim7.holds Tryz.pinned (.plain (OpenSpec.ofChange nameFreesSpec)) nameFreesCard

/-- THE TIED CARD OF 'mistlaw05.NameChained'. -/
def nameChainedCard : Claim7 := { stood := { row := nameChainedRow, standIns := [], harness := (true, "a023823662ed6eaa4faa4cefff232a38bbf862f5b9de5d812835571d6efbf875"), looks := true }, kinds := [], alts := [], laidByText := true, laidKinds := [.data, .data, .data, .sentinel, .sentinel, .listed, .data], laidTests := true, laidLooks := .later }
def NameChainedCardSaid : Prop := Claim7.holds Tryz.pinned (.plain (OpenSpec.ofChange nameChainedSpec)) nameChainedCard

/-- THE TIED CARD OF 'mistlaw05.NameAlone'. -/
def nameAloneCard : Claim7 := { stood := { row := nameAloneRow, standIns := [], harness := (true, "a023823662ed6eaa4faa4cefff232a38bbf862f5b9de5d812835571d6efbf875"), looks := true }, kinds := [], alts := [], laidByText := true, laidKinds := [.data, .data, .data, .sentinel, .sentinel, .listed, .data], laidTests := true, laidLooks := .later }
def NameAloneCardSaid : Prop := Claim7.holds Tryz.pinned (.plain (OpenSpec.ofChange nameAloneSpec)) nameAloneCard

/-- THE SECOND FORM's CARD OF 'mistlaw05.NameResolves'. -/
def nameResolvesUptoCard : Claim7 := { stood := { row := nameResolvesUptoRow, standIns := [], harness := (true, "a023823662ed6eaa4faa4cefff232a38bbf862f5b9de5d812835571d6efbf875"), looks := true }, kinds := [], alts := [], laidByText := true, laidKinds := [.data, .data, .data, .sentinel, .sentinel, .listed, .data], laidTests := true, laidLooks := .later }
def NameResolvesUptoCardSaid : Prop := Claim7.holds Tryz.pinned (.plain (OpenSpec.upto nameResolvesSpec)) nameResolvesUptoCard

/-- THE SECOND FORM's CARD OF 'mistlaw05.NameSights'. -/
def nameSightsUptoCard : Claim7 := { stood := { row := nameSightsUptoRow, standIns := [], harness := (true, "a023823662ed6eaa4faa4cefff232a38bbf862f5b9de5d812835571d6efbf875"), looks := true }, kinds := [], alts := [], laidByText := true, laidKinds := [.data, .data, .data, .sentinel, .sentinel, .listed, .data], laidTests := true, laidLooks := .later }
def NameSightsUptoCardSaid : Prop := Claim7.holds Tryz.pinned (.plain (OpenSpec.upto nameSightsSpec)) nameSightsUptoCard

/-- THE SECOND FORM's CARD OF 'mistlaw05.NameRenames'. -/
def nameRenamesUptoCard : Claim7 := { stood := { row := nameRenamesUptoRow, standIns := [], harness := (true, "a023823662ed6eaa4faa4cefff232a38bbf862f5b9de5d812835571d6efbf875"), looks := true }, kinds := [], alts := [], laidByText := true, laidKinds := [.data, .data, .data, .sentinel, .sentinel, .listed, .data], laidTests := true, laidLooks := .later }
def NameRenamesUptoCardSaid : Prop := Claim7.holds Tryz.pinned (.plain (OpenSpec.upto nameRenamesSpec)) nameRenamesUptoCard

/-- THE SECOND FORM's CARD OF 'mistlaw05.NameNeeded'. -/
def nameNeededUptoCard : Claim7 := { stood := { row := nameNeededUptoRow, standIns := [], harness := (true, "a023823662ed6eaa4faa4cefff232a38bbf862f5b9de5d812835571d6efbf875"), looks := true }, kinds := [], alts := [], laidByText := true, laidKinds := [.data, .data, .data, .sentinel, .sentinel, .listed, .data], laidTests := true, laidLooks := .later }
def NameNeededUptoCardSaid : Prop := Claim7.holds Tryz.pinned (.plain (OpenSpec.upto nameNeededSpec)) nameNeededUptoCard

/-- THE SECOND FORM's CARD OF 'mistlaw05.NameMeans'. -/
def nameMeansUptoCard : Claim7 := { stood := { row := nameMeansUptoRow, standIns := [], harness := (true, "a023823662ed6eaa4faa4cefff232a38bbf862f5b9de5d812835571d6efbf875"), looks := true }, kinds := [], alts := [], laidByText := true, laidKinds := [.data, .data, .data, .sentinel, .sentinel, .listed, .data], laidTests := true, laidLooks := .later }
def NameMeansUptoCardSaid : Prop := Claim7.holds Tryz.pinned (.plain (OpenSpec.upto nameMeansSpec)) nameMeansUptoCard

/-- THE SECOND FORM's CARD OF 'mistlaw05.NameRenamed'. -/
def nameRenamedUptoCard : Claim7 := { stood := { row := nameRenamedUptoRow, standIns := [], harness := (true, "a023823662ed6eaa4faa4cefff232a38bbf862f5b9de5d812835571d6efbf875"), looks := true }, kinds := [], alts := [], laidByText := true, laidKinds := [.data, .data, .data, .sentinel, .sentinel, .listed, .data], laidTests := true, laidLooks := .later }
def NameRenamedUptoCardSaid : Prop := Claim7.holds Tryz.pinned (.plain (OpenSpec.upto nameRenamedSpec)) nameRenamedUptoCard

/-- THE SECOND FORM's CARD OF 'mistlaw05.NameInSight'. -/
def nameInSightUptoCard : Claim7 := { stood := { row := nameInSightUptoRow, standIns := [], harness := (true, "a023823662ed6eaa4faa4cefff232a38bbf862f5b9de5d812835571d6efbf875"), looks := true }, kinds := [], alts := [], laidByText := true, laidKinds := [.data, .data, .data, .sentinel, .sentinel, .listed, .data], laidTests := true, laidLooks := .later }
def NameInSightUptoCardSaid : Prop := Claim7.holds Tryz.pinned (.plain (OpenSpec.upto nameInSightSpec)) nameInSightUptoCard

/-- THE SECOND FORM's CARD OF 'mistlaw05.NameFrees'. -/
def nameFreesUptoCard : Claim7 := { stood := { row := nameFreesUptoRow, standIns := [], harness := (true, "a023823662ed6eaa4faa4cefff232a38bbf862f5b9de5d812835571d6efbf875"), looks := true }, kinds := [], alts := [], laidByText := true, laidKinds := [.data, .data, .data, .sentinel, .sentinel, .listed, .data], laidTests := true, laidLooks := .later }
def NameFreesUptoCardSaid : Prop := Claim7.holds Tryz.pinned (.plain (OpenSpec.upto nameFreesSpec)) nameFreesUptoCard

/-- THE SECOND FORM's CARD OF 'mistlaw05.NameChained'. -/
def nameChainedUptoCard : Claim7 := { stood := { row := nameChainedUptoRow, standIns := [], harness := (true, "a023823662ed6eaa4faa4cefff232a38bbf862f5b9de5d812835571d6efbf875"), looks := true }, kinds := [], alts := [], laidByText := true, laidKinds := [.data, .data, .data, .sentinel, .sentinel, .listed, .data], laidTests := true, laidLooks := .later }
def NameChainedUptoCardSaid : Prop := Claim7.holds Tryz.pinned (.plain (OpenSpec.upto nameChainedSpec)) nameChainedUptoCard

/-- THE SECOND FORM's CARD OF 'mistlaw05.NameAlone'. -/
def nameAloneUptoCard : Claim7 := { stood := { row := nameAloneUptoRow, standIns := [], harness := (true, "a023823662ed6eaa4faa4cefff232a38bbf862f5b9de5d812835571d6efbf875"), looks := true }, kinds := [], alts := [], laidByText := true, laidKinds := [.data, .data, .data, .sentinel, .sentinel, .listed, .data], laidTests := true, laidLooks := .later }
def NameAloneUptoCardSaid : Prop := Claim7.holds Tryz.pinned (.plain (OpenSpec.upto nameAloneSpec)) nameAloneUptoCard
end Rows
end Go.Proofs.YtipjhljnkocioaaGreatDoor
