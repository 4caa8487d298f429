/-
  No cell of these rows narrows 'for every input' (looked for: loops, veiled, ifaces, maps, wideKeys, modest, calm, conditions, laid).
  DERIVED. THE GIVEN ROWS OF THIS SEAT. 11 by the template 'for every input the law returns true; each argument reads behind the call as it read before'; 0 by the template 'total and deterministic' (their statements: YtphalijdanmkeaaTotals.lean).
  GIVEN WITH THE SEED: the statements are not yours to turn. If you find one false, say at which input.
  Laid BY PROGRAM, IN A SANDBOX (cutbox-rows.mjs): the forced cells as the released guide's own fill.sh prints them over the translation 59c4a6178c36088d… (all of the seat's roots in one cut). By AI agents, Wed Nov 11 2026. No macro, syntax, notation, axiom, sorry.
-/
import Derived.Test.YtphalijdanmkeaaChecked
import GoSem.Claim
import GoSem.ClaimJoined
import GoSem.ClaimMapViews
import Derived.JoinedTies
import Derived.KernelRfl
namespace Go.Proofs.Ytphalijdanmkeaa
/- THE CELL 'sum', in the pinned program and in every row, IS THE sha256 OF THE DUMP (.gsa) THAT YtphalijdanmkeaaProg.lean LOADS. Nothing in Lean hashes anything: it is a label: what it is worth is what the hold of that sum in a sandbox is worth. -/
noncomputable def Try.pinned : Pinned := { name := "ytphalijdanmkeaa", sum := "59c4a6178c36088d7470f912082c4bc5ea267d01fde35c2d4d71b33271f68cf7", checked := Try.checked }
namespace Rows
def none {H : Type} : Left H := { results := [], args := [] }

/-- 'mistlaw27.JournalFormats': WHATEVER THE INPUT: true; the input reads as it did. -/
def journalFormatsSpec : ChangeSpec := { name := "journalFormats", fn := fun _ => fun
  | [d] => { results := [.lit (.bool true)], args := [d] }
  | _ => none }
def journalFormatsRow : OpenClaim := { program := "ytphalijdanmkeaa", sum := "59c4a6178c36088d7470f912082c4bc5ea267d01fde35c2d4d71b33271f68cf7", func := "mist/mistlaw27.JournalFormats", spec := "journalFormats", unfollowed := true, recurses := true, apart := false }
def JournalFormatsSaid : Prop := journalFormatsRow.holds Try.pinned (OpenSpec.ofChange journalFormatsSpec)

/-- ITS FALSE NEIGHBOUR: 'it returns false'. Refute it at one input. -/
def journalFormatsWrong : ChangeSpec := { name := "journalFormats", fn := fun _ => fun
  | [d] => { results := [.lit (.bool false)], args := [d] }
  | _ => none }
def JournalFormatsWrongFalsely : Prop := journalFormatsRow.holds Try.pinned (OpenSpec.ofChange journalFormatsWrong)

/-- 'mistlaw27.JournalRecords': WHATEVER THE INPUT: true; the input reads as it did. -/
def journalRecordsSpec : ChangeSpec := { name := "journalRecords", fn := fun _ => fun
  | [d1, d2] => { results := [.lit (.bool true)], args := [d1, d2] }
  | _ => none }
def journalRecordsRow : OpenClaim := { program := "ytphalijdanmkeaa", sum := "59c4a6178c36088d7470f912082c4bc5ea267d01fde35c2d4d71b33271f68cf7", func := "mist/mistlaw27.JournalRecords", spec := "journalRecords", unfollowed := true, recurses := true, apart := false }
def JournalRecordsSaid : Prop := journalRecordsRow.holds Try.pinned (OpenSpec.ofChange journalRecordsSpec)

/-- ITS FALSE NEIGHBOUR: 'it returns false'. Refute it at one input. -/
def journalRecordsWrong : ChangeSpec := { name := "journalRecords", fn := fun _ => fun
  | [d1, d2] => { results := [.lit (.bool false)], args := [d1, d2] }
  | _ => none }
def JournalRecordsWrongFalsely : Prop := journalRecordsRow.holds Try.pinned (OpenSpec.ofChange journalRecordsWrong)

/-- 'mistlaw27.JournalReads': WHATEVER THE INPUT: true; the input reads as it did. -/
def journalReadsSpec : ChangeSpec := { name := "journalReads", fn := fun _ => fun
  | [d] => { results := [.lit (.bool true)], args := [d] }
  | _ => none }
def journalReadsRow : OpenClaim := { program := "ytphalijdanmkeaa", sum := "59c4a6178c36088d7470f912082c4bc5ea267d01fde35c2d4d71b33271f68cf7", func := "mist/mistlaw27.JournalReads", spec := "journalReads", unfollowed := true, recurses := true, apart := false }
def JournalReadsSaid : Prop := journalReadsRow.holds Try.pinned (OpenSpec.ofChange journalReadsSpec)

/-- ITS FALSE NEIGHBOUR: 'it returns false'. Refute it at one input. -/
def journalReadsWrong : ChangeSpec := { name := "journalReads", fn := fun _ => fun
  | [d] => { results := [.lit (.bool false)], args := [d] }
  | _ => none }
def JournalReadsWrongFalsely : Prop := journalReadsRow.holds Try.pinned (OpenSpec.ofChange journalReadsWrong)

/-- 'mistlaw27.JournalWrites': WHATEVER THE INPUT: true; the input reads as it did. -/
def journalWritesSpec : ChangeSpec := { name := "journalWrites", fn := fun _ => fun
  | [d] => { results := [.lit (.bool true)], args := [d] }
  | _ => none }
def journalWritesRow : OpenClaim := { program := "ytphalijdanmkeaa", sum := "59c4a6178c36088d7470f912082c4bc5ea267d01fde35c2d4d71b33271f68cf7", func := "mist/mistlaw27.JournalWrites", spec := "journalWrites", inPlace := ["internal/abi.NoEscape"], unfollowed := true, recurses := true, apart := false }
def JournalWritesSaid : Prop := journalWritesRow.holds Try.pinned (OpenSpec.ofChange journalWritesSpec)

/-- ITS FALSE NEIGHBOUR: 'it returns false'. Refute it at one input. -/
def journalWritesWrong : ChangeSpec := { name := "journalWrites", fn := fun _ => fun
  | [d] => { results := [.lit (.bool false)], args := [d] }
  | _ => none }
def JournalWritesWrongFalsely : Prop := journalWritesRow.holds Try.pinned (OpenSpec.ofChange journalWritesWrong)

/-- 'mistlaw27.JournalSpoilt': WHATEVER THE INPUT: true; the input reads as it did. -/
def journalSpoiltSpec : ChangeSpec := { name := "journalSpoilt", fn := fun _ => fun
  | [d1, d2, d3] => { results := [.lit (.bool true)], args := [d1, d2, d3] }
  | _ => none }
def journalSpoiltRow : OpenClaim := { program := "ytphalijdanmkeaa", sum := "59c4a6178c36088d7470f912082c4bc5ea267d01fde35c2d4d71b33271f68cf7", func := "mist/mistlaw27.JournalSpoilt", spec := "journalSpoilt", inPlace := ["internal/abi.NoEscape"], unfollowed := true, recurses := true, apart := false }
def JournalSpoiltSaid : Prop := journalSpoiltRow.holds Try.pinned (OpenSpec.ofChange journalSpoiltSpec)

/-- ITS FALSE NEIGHBOUR: 'it returns false'. Refute it at one input. -/
def journalSpoiltWrong : ChangeSpec := { name := "journalSpoilt", fn := fun _ => fun
  | [d1, d2, d3] => { results := [.lit (.bool false)], args := [d1, d2, d3] }
  | _ => none }
def JournalSpoiltWrongFalsely : Prop := journalSpoiltRow.holds Try.pinned (OpenSpec.ofChange journalSpoiltWrong)

/-- 'mistlaw27.JournalAppends': WHATEVER THE INPUT: true; the input reads as it did. -/
def journalAppendsSpec : ChangeSpec := { name := "journalAppends", fn := fun _ => fun
  | [d1, d2, d3] => { results := [.lit (.bool true)], args := [d1, d2, d3] }
  | _ => none }
def journalAppendsRow : OpenClaim := { program := "ytphalijdanmkeaa", sum := "59c4a6178c36088d7470f912082c4bc5ea267d01fde35c2d4d71b33271f68cf7", func := "mist/mistlaw27.JournalAppends", spec := "journalAppends", inPlace := ["internal/abi.NoEscape"], unfollowed := true, recurses := true, apart := false }
def JournalAppendsSaid : Prop := journalAppendsRow.holds Try.pinned (OpenSpec.ofChange journalAppendsSpec)

/-- ITS FALSE NEIGHBOUR: 'it returns false'. Refute it at one input. -/
def journalAppendsWrong : ChangeSpec := { name := "journalAppends", fn := fun _ => fun
  | [d1, d2, d3] => { results := [.lit (.bool false)], args := [d1, d2, d3] }
  | _ => none }
def JournalAppendsWrongFalsely : Prop := journalAppendsRow.holds Try.pinned (OpenSpec.ofChange journalAppendsWrong)

/-- 'mistlaw27.JournalCrashes': WHATEVER THE INPUT: true; the input reads as it did. -/
def journalCrashesSpec : ChangeSpec := { name := "journalCrashes", fn := fun _ => fun
  | [d1, d2, d3] => { results := [.lit (.bool true)], args := [d1, d2, d3] }
  | _ => none }
def journalCrashesRow : OpenClaim := { program := "ytphalijdanmkeaa", sum := "59c4a6178c36088d7470f912082c4bc5ea267d01fde35c2d4d71b33271f68cf7", func := "mist/mistlaw27.JournalCrashes", spec := "journalCrashes", unfollowed := true, recurses := true, apart := false }
def JournalCrashesSaid : Prop := journalCrashesRow.holds Try.pinned (OpenSpec.ofChange journalCrashesSpec)

/-- ITS FALSE NEIGHBOUR: 'it returns false'. Refute it at one input. -/
def journalCrashesWrong : ChangeSpec := { name := "journalCrashes", fn := fun _ => fun
  | [d1, d2, d3] => { results := [.lit (.bool false)], args := [d1, d2, d3] }
  | _ => none }
def JournalCrashesWrongFalsely : Prop := journalCrashesRow.holds Try.pinned (OpenSpec.ofChange journalCrashesWrong)

/-- 'mistlaw27.JournalBack': WHATEVER THE INPUT: true; the input reads as it did. -/
def journalBackSpec : ChangeSpec := { name := "journalBack", fn := fun _ => fun
  | [d1, d2] => { results := [.lit (.bool true)], args := [d1, d2] }
  | _ => none }
def journalBackRow : OpenClaim := { program := "ytphalijdanmkeaa", sum := "59c4a6178c36088d7470f912082c4bc5ea267d01fde35c2d4d71b33271f68cf7", func := "mist/mistlaw27.JournalBack", spec := "journalBack", inPlace := ["internal/abi.NoEscape"], unfollowed := true, recurses := true, apart := false }
def JournalBackSaid : Prop := journalBackRow.holds Try.pinned (OpenSpec.ofChange journalBackSpec)

/-- ITS FALSE NEIGHBOUR: 'it returns false'. Refute it at one input. -/
def journalBackWrong : ChangeSpec := { name := "journalBack", fn := fun _ => fun
  | [d1, d2] => { results := [.lit (.bool false)], args := [d1, d2] }
  | _ => none }
def JournalBackWrongFalsely : Prop := journalBackRow.holds Try.pinned (OpenSpec.ofChange journalBackWrong)

/-- 'mistlaw27.JournalRoomy': WHATEVER THE INPUT: true; the input reads as it did. -/
def journalRoomySpec : ChangeSpec := { name := "journalRoomy", fn := fun _ => fun
  | [d1, d2] => { results := [.lit (.bool true)], args := [d1, d2] }
  | _ => none }
def journalRoomyRow : OpenClaim := { program := "ytphalijdanmkeaa", sum := "59c4a6178c36088d7470f912082c4bc5ea267d01fde35c2d4d71b33271f68cf7", func := "mist/mistlaw27.JournalRoomy", spec := "journalRoomy", inPlace := ["internal/abi.NoEscape"], unfollowed := true, recurses := true, apart := false }
def JournalRoomySaid : Prop := journalRoomyRow.holds Try.pinned (OpenSpec.ofChange journalRoomySpec)

/-- ITS FALSE NEIGHBOUR: 'it returns false'. Refute it at one input. -/
def journalRoomyWrong : ChangeSpec := { name := "journalRoomy", fn := fun _ => fun
  | [d1, d2] => { results := [.lit (.bool false)], args := [d1, d2] }
  | _ => none }
def JournalRoomyWrongFalsely : Prop := journalRoomyRow.holds Try.pinned (OpenSpec.ofChange journalRoomyWrong)

/-- 'mistlaw27.JournalTorn': WHATEVER THE INPUT: true; the input reads as it did. -/
def journalTornSpec : ChangeSpec := { name := "journalTorn", fn := fun _ => fun
  | [d1, d2, d3] => { results := [.lit (.bool true)], args := [d1, d2, d3] }
  | _ => none }
def journalTornRow : OpenClaim := { program := "ytphalijdanmkeaa", sum := "59c4a6178c36088d7470f912082c4bc5ea267d01fde35c2d4d71b33271f68cf7", func := "mist/mistlaw27.JournalTorn", spec := "journalTorn", inPlace := ["internal/abi.NoEscape"], unfollowed := true, recurses := true, apart := false }
def JournalTornSaid : Prop := journalTornRow.holds Try.pinned (OpenSpec.ofChange journalTornSpec)

/-- ITS FALSE NEIGHBOUR: 'it returns false'. Refute it at one input. -/
def journalTornWrong : ChangeSpec := { name := "journalTorn", fn := fun _ => fun
  | [d1, d2, d3] => { results := [.lit (.bool false)], args := [d1, d2, d3] }
  | _ => none }
def JournalTornWrongFalsely : Prop := journalTornRow.holds Try.pinned (OpenSpec.ofChange journalTornWrong)

/-- 'mistlaw27.JournalUndone': WHATEVER THE INPUT: true; the input reads as it did. -/
def journalUndoneSpec : ChangeSpec := { name := "journalUndone", fn := fun _ => fun
  | [d1, d2, d3] => { results := [.lit (.bool true)], args := [d1, d2, d3] }
  | _ => none }
def journalUndoneRow : OpenClaim := { program := "ytphalijdanmkeaa", sum := "59c4a6178c36088d7470f912082c4bc5ea267d01fde35c2d4d71b33271f68cf7", func := "mist/mistlaw27.JournalUndone", spec := "journalUndone", inPlace := ["internal/abi.NoEscape"], unfollowed := true, recurses := true, apart := false }
def JournalUndoneSaid : Prop := journalUndoneRow.holds Try.pinned (OpenSpec.ofChange journalUndoneSpec)

/-- ITS FALSE NEIGHBOUR: 'it returns false'. Refute it at one input. -/
def journalUndoneWrong : ChangeSpec := { name := "journalUndone", fn := fun _ => fun
  | [d1, d2, d3] => { results := [.lit (.bool false)], args := [d1, d2, d3] }
  | _ => none }
def JournalUndoneWrongFalsely : Prop := journalUndoneRow.holds Try.pinned (OpenSpec.ofChange journalUndoneWrong)

/- THE SECOND FORM. 'bulk': how many values and letters a reading holds, each counted each time it is reached (what is shared counts as often as it is met; a slice's spare places count too). A statement '..UptoSaid' is the law's where the arguments, and the package variables that the reading takes, are together of bulk at most 1048576: NARROWER than '..Said'. Prove '..Said' where nothing that the law and all that it calls make is longer than what came in: it says more and counts as full. Else prove '..UptoSaid'. A law counts once. -/
mutual
def uptoBulk {H : Type} : DataW H → Nat
  | .lit (.string bytes) => bytes.length + 1
  | .lit _ => 1
  | .nil => 1
  | .ptr d => uptoBulk d + 1
  | .slice elems spare => uptoBulkAll elems + uptoBulkAll spare + 1
  | .agg parts => uptoBulkAll parts + 1
  | .iface _ d => uptoBulk d + 1
  | .map entries => uptoBulkEntries entries + 1
  | .held _ => 1
def uptoBulkAll {H : Type} : List (DataW H) → Nat
  | [] => 0
  | d :: r => uptoBulk d + uptoBulkAll r
def uptoBulkEntries {H : Type} : List (Lit × DataW H) → Nat
  | [] => 0
  | x :: r => uptoBulkEntry x + uptoBulkEntries r
def uptoBulkEntry {H : Type} : Lit × DataW H → Nat
  | (.string bytes, d) => bytes.length + uptoBulk d + 1
  | (_, d) => uptoBulk d + 1
 end
def uptoSmall : (H : Type) → List (DataW H) → Bool := fun _ ds => decide (uptoBulkAll ds ≤ 1048576)
def OpenSpec.upto (s : _root_.Go.ChangeSpec) : _root_.Go.OpenSpec := { _root_.Go.OpenSpec.ofChange s with cond := some uptoSmall }

/-- 'mistlaw27.JournalFormats', WHERE WHAT IT READS IS OF BULK AT MOST 1048576: true; the input reads as it did. -/
def journalFormatsUptoRow : OpenClaim := { program := "ytphalijdanmkeaa", sum := "59c4a6178c36088d7470f912082c4bc5ea267d01fde35c2d4d71b33271f68cf7", func := "mist/mistlaw27.JournalFormats", spec := "journalFormats", unfollowed := true, recurses := true, apart := false, narrowed := true }
def JournalFormatsUptoSaid : Prop := journalFormatsUptoRow.holds Try.pinned (OpenSpec.upto journalFormatsSpec)

/-- 'mistlaw27.JournalRecords', WHERE WHAT IT READS IS OF BULK AT MOST 1048576: true; the input reads as it did. -/
def journalRecordsUptoRow : OpenClaim := { program := "ytphalijdanmkeaa", sum := "59c4a6178c36088d7470f912082c4bc5ea267d01fde35c2d4d71b33271f68cf7", func := "mist/mistlaw27.JournalRecords", spec := "journalRecords", unfollowed := true, recurses := true, apart := false, narrowed := true }
def JournalRecordsUptoSaid : Prop := journalRecordsUptoRow.holds Try.pinned (OpenSpec.upto journalRecordsSpec)

/-- 'mistlaw27.JournalReads', WHERE WHAT IT READS IS OF BULK AT MOST 1048576: true; the input reads as it did. -/
def journalReadsUptoRow : OpenClaim := { program := "ytphalijdanmkeaa", sum := "59c4a6178c36088d7470f912082c4bc5ea267d01fde35c2d4d71b33271f68cf7", func := "mist/mistlaw27.JournalReads", spec := "journalReads", unfollowed := true, recurses := true, apart := false, narrowed := true }
def JournalReadsUptoSaid : Prop := journalReadsUptoRow.holds Try.pinned (OpenSpec.upto journalReadsSpec)

/-- 'mistlaw27.JournalWrites', WHERE WHAT IT READS IS OF BULK AT MOST 1048576: true; the input reads as it did. -/
def journalWritesUptoRow : OpenClaim := { program := "ytphalijdanmkeaa", sum := "59c4a6178c36088d7470f912082c4bc5ea267d01fde35c2d4d71b33271f68cf7", func := "mist/mistlaw27.JournalWrites", spec := "journalWrites", inPlace := ["internal/abi.NoEscape"], unfollowed := true, recurses := true, apart := false, narrowed := true }
def JournalWritesUptoSaid : Prop := journalWritesUptoRow.holds Try.pinned (OpenSpec.upto journalWritesSpec)

/-- 'mistlaw27.JournalSpoilt', WHERE WHAT IT READS IS OF BULK AT MOST 1048576: true; the input reads as it did. -/
def journalSpoiltUptoRow : OpenClaim := { program := "ytphalijdanmkeaa", sum := "59c4a6178c36088d7470f912082c4bc5ea267d01fde35c2d4d71b33271f68cf7", func := "mist/mistlaw27.JournalSpoilt", spec := "journalSpoilt", inPlace := ["internal/abi.NoEscape"], unfollowed := true, recurses := true, apart := false, narrowed := true }
def JournalSpoiltUptoSaid : Prop := journalSpoiltUptoRow.holds Try.pinned (OpenSpec.upto journalSpoiltSpec)

/-- 'mistlaw27.JournalAppends', WHERE WHAT IT READS IS OF BULK AT MOST 1048576: true; the input reads as it did. -/
def journalAppendsUptoRow : OpenClaim := { program := "ytphalijdanmkeaa", sum := "59c4a6178c36088d7470f912082c4bc5ea267d01fde35c2d4d71b33271f68cf7", func := "mist/mistlaw27.JournalAppends", spec := "journalAppends", inPlace := ["internal/abi.NoEscape"], unfollowed := true, recurses := true, apart := false, narrowed := true }
def JournalAppendsUptoSaid : Prop := journalAppendsUptoRow.holds Try.pinned (OpenSpec.upto journalAppendsSpec)

/-- 'mistlaw27.JournalCrashes', WHERE WHAT IT READS IS OF BULK AT MOST 1048576: true; the input reads as it did. -/
def journalCrashesUptoRow : OpenClaim := { program := "ytphalijdanmkeaa", sum := "59c4a6178c36088d7470f912082c4bc5ea267d01fde35c2d4d71b33271f68cf7", func := "mist/mistlaw27.JournalCrashes", spec := "journalCrashes", unfollowed := true, recurses := true, apart := false, narrowed := true }
def JournalCrashesUptoSaid : Prop := journalCrashesUptoRow.holds Try.pinned (OpenSpec.upto journalCrashesSpec)

/-- 'mistlaw27.JournalBack', WHERE WHAT IT READS IS OF BULK AT MOST 1048576: true; the input reads as it did. -/
def journalBackUptoRow : OpenClaim := { program := "ytphalijdanmkeaa", sum := "59c4a6178c36088d7470f912082c4bc5ea267d01fde35c2d4d71b33271f68cf7", func := "mist/mistlaw27.JournalBack", spec := "journalBack", inPlace := ["internal/abi.NoEscape"], unfollowed := true, recurses := true, apart := false, narrowed := true }
def JournalBackUptoSaid : Prop := journalBackUptoRow.holds Try.pinned (OpenSpec.upto journalBackSpec)

/-- 'mistlaw27.JournalRoomy', WHERE WHAT IT READS IS OF BULK AT MOST 1048576: true; the input reads as it did. -/
def journalRoomyUptoRow : OpenClaim := { program := "ytphalijdanmkeaa", sum := "59c4a6178c36088d7470f912082c4bc5ea267d01fde35c2d4d71b33271f68cf7", func := "mist/mistlaw27.JournalRoomy", spec := "journalRoomy", inPlace := ["internal/abi.NoEscape"], unfollowed := true, recurses := true, apart := false, narrowed := true }
def JournalRoomyUptoSaid : Prop := journalRoomyUptoRow.holds Try.pinned (OpenSpec.upto journalRoomySpec)

/-- 'mistlaw27.JournalTorn', WHERE WHAT IT READS IS OF BULK AT MOST 1048576: true; the input reads as it did. -/
def journalTornUptoRow : OpenClaim := { program := "ytphalijdanmkeaa", sum := "59c4a6178c36088d7470f912082c4bc5ea267d01fde35c2d4d71b33271f68cf7", func := "mist/mistlaw27.JournalTorn", spec := "journalTorn", inPlace := ["internal/abi.NoEscape"], unfollowed := true, recurses := true, apart := false, narrowed := true }
def JournalTornUptoSaid : Prop := journalTornUptoRow.holds Try.pinned (OpenSpec.upto journalTornSpec)

/-- 'mistlaw27.JournalUndone', WHERE WHAT IT READS IS OF BULK AT MOST 1048576: true; the input reads as it did. -/
def journalUndoneUptoRow : OpenClaim := { program := "ytphalijdanmkeaa", sum := "59c4a6178c36088d7470f912082c4bc5ea267d01fde35c2d4d71b33271f68cf7", func := "mist/mistlaw27.JournalUndone", spec := "journalUndone", inPlace := ["internal/abi.NoEscape"], unfollowed := true, recurses := true, apart := false, narrowed := true }
def JournalUndoneUptoSaid : Prop := journalUndoneUptoRow.holds Try.pinned (OpenSpec.upto journalUndoneSpec)

end Rows
end Go.Proofs.Ytphalijdanmkeaa
