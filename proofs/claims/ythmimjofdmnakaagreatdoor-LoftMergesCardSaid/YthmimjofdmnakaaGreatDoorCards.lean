/-
  DERIVED. GIVEN WITH THE SEED: THE CARDS: each row of YthmimjofdmnakaaGreatDoorRows.lean that lists a variable, with what it lists TIED to the program's text (the seventh form; the later family's looks); each row that meets fmt, with fmt's text TOLD by the authors' own Lean function (tested against real Go, not proved from fmt's source: count such statements apart). THE CARD IS WHAT COUNTS. Prove the row's statement (the work); the ties are given (YthmimjofdmnakaaGreatDoorTie.lean); close each card by the builder's one call (the guide's Derived/Test/ToyasCard.lean, 'card_holds'). Laid BY PROGRAM, IN A SANDBOX (cutbox-door.mjs). By AI agents, Wed Nov 11 2026. No macro, syntax, notation, axiom, sorry.
-/
import Derived.Test.YthmimjofdmnakaaGreatDoorRows
import GoSem.ClaimSeven
namespace Go.Proofs.YthmimjofdmnakaaGreatDoor
namespace Rows

/-- THE TIED CARD OF 'stricklelaw09.LoftRecords'. -/
def loftRecordsCard : Claim7 := { stood := { row := loftRecordsRow, standIns := [], harness := (true, "f640563e121ccbac8bbd08e2a9af14bcaac14639ac2f298e33b7a65943a8cd02"), looks := true }, kinds := [], alts := [], laidByText := true, laidKinds := [.data, .data, .data, .data, .sentinel, .sentinel, .pinned], laidTests := true, laidLooks := .later }
def LoftRecordsCardSaid : Prop := Claim7.holds Tryz.pinned (.plain (OpenSpec.ofChange loftRecordsSpec)) loftRecordsCard

/-- THE TIED CARD OF 'stricklelaw09.LoftJournals'. -/
def loftJournalsCard : Claim7 := { stood := { row := loftJournalsRow, standIns := [], harness := (true, "f640563e121ccbac8bbd08e2a9af14bcaac14639ac2f298e33b7a65943a8cd02"), looks := true }, kinds := [], alts := [], laidByText := true, laidKinds := [.data, .data, .data, .data, .sentinel, .sentinel, .pinned], laidTests := true, laidLooks := .later }
def LoftJournalsCardSaid : Prop := Claim7.holds Tryz.pinned (.plain (OpenSpec.ofChange loftJournalsSpec)) loftJournalsCard

/-- THE TIED CARD OF 'stricklelaw09.LoftMerges'. -/
def loftMergesCard : Claim7 := { stood := { row := loftMergesRow, standIns := [], harness := (true, "f640563e121ccbac8bbd08e2a9af14bcaac14639ac2f298e33b7a65943a8cd02"), looks := true }, kinds := [], alts := [], laidByText := true, laidKinds := [.data, .data, .data, .data, .sentinel, .sentinel, .pinned], laidTests := true, laidLooks := .later }
def LoftMergesCardSaid : Prop := Claim7.holds Tryz.pinned (.plain (OpenSpec.ofChange loftMergesSpec)) loftMergesCard

/-- THE TIED CARD OF 'stricklelaw09.LoftDisk'. -/
def loftDiskCard : Claim7 := { stood := { row := loftDiskRow, standIns := [], harness := (true, "f640563e121ccbac8bbd08e2a9af14bcaac14639ac2f298e33b7a65943a8cd02"), looks := true }, kinds := [], alts := [], laidByText := true, laidKinds := [.data, .data, .data, .data, .sentinel, .sentinel, .pinned], laidTests := true, laidLooks := .later }
def LoftDiskCardSaid : Prop := Claim7.holds Tryz.pinned (.plain (OpenSpec.ofChange loftDiskSpec)) loftDiskCard

/-- THE TIED CARD OF 'stricklelaw09.LoftNil'. -/
def loftNilCard : Claim7 := { stood := { row := loftNilRow, standIns := [], harness := (true, "f640563e121ccbac8bbd08e2a9af14bcaac14639ac2f298e33b7a65943a8cd02"), looks := true }, kinds := [], alts := [], laidByText := true, laidKinds := [.data, .data, .data, .data, .sentinel, .sentinel, .pinned], laidTests := true, laidLooks := .later }
def LoftNilCardSaid : Prop := Claim7.holds Tryz.pinned (.plain (OpenSpec.ofChange loftNilSpec)) loftNilCard

/-- THE SECOND FORM's CARD OF 'stricklelaw09.LoftRecords'. -/
def loftRecordsUptoCard : Claim7 := { stood := { row := loftRecordsUptoRow, standIns := [], harness := (true, "f640563e121ccbac8bbd08e2a9af14bcaac14639ac2f298e33b7a65943a8cd02"), looks := true }, kinds := [], alts := [], laidByText := true, laidKinds := [.data, .data, .data, .data, .sentinel, .sentinel, .pinned], laidTests := true, laidLooks := .later }
def LoftRecordsUptoCardSaid : Prop := Claim7.holds Tryz.pinned (.plain (OpenSpec.upto loftRecordsSpec)) loftRecordsUptoCard

/-- THE SECOND FORM's CARD OF 'stricklelaw09.LoftJournals'. -/
def loftJournalsUptoCard : Claim7 := { stood := { row := loftJournalsUptoRow, standIns := [], harness := (true, "f640563e121ccbac8bbd08e2a9af14bcaac14639ac2f298e33b7a65943a8cd02"), looks := true }, kinds := [], alts := [], laidByText := true, laidKinds := [.data, .data, .data, .data, .sentinel, .sentinel, .pinned], laidTests := true, laidLooks := .later }
def LoftJournalsUptoCardSaid : Prop := Claim7.holds Tryz.pinned (.plain (OpenSpec.upto loftJournalsSpec)) loftJournalsUptoCard

/-- THE SECOND FORM's CARD OF 'stricklelaw09.LoftMerges'. -/
def loftMergesUptoCard : Claim7 := { stood := { row := loftMergesUptoRow, standIns := [], harness := (true, "f640563e121ccbac8bbd08e2a9af14bcaac14639ac2f298e33b7a65943a8cd02"), looks := true }, kinds := [], alts := [], laidByText := true, laidKinds := [.data, .data, .data, .data, .sentinel, .sentinel, .pinned], laidTests := true, laidLooks := .later }
def LoftMergesUptoCardSaid : Prop := Claim7.holds Tryz.pinned (.plain (OpenSpec.upto loftMergesSpec)) loftMergesUptoCard

/-- THE SECOND FORM's CARD OF 'stricklelaw09.LoftDisk'. -/
def loftDiskUptoCard : Claim7 := { stood := { row := loftDiskUptoRow, standIns := [], harness := (true, "f640563e121ccbac8bbd08e2a9af14bcaac14639ac2f298e33b7a65943a8cd02"), looks := true }, kinds := [], alts := [], laidByText := true, laidKinds := [.data, .data, .data, .data, .sentinel, .sentinel, .pinned], laidTests := true, laidLooks := .later }
def LoftDiskUptoCardSaid : Prop := Claim7.holds Tryz.pinned (.plain (OpenSpec.upto loftDiskSpec)) loftDiskUptoCard

/-- THE SECOND FORM's CARD OF 'stricklelaw09.LoftNil'. -/
def loftNilUptoCard : Claim7 := { stood := { row := loftNilUptoRow, standIns := [], harness := (true, "f640563e121ccbac8bbd08e2a9af14bcaac14639ac2f298e33b7a65943a8cd02"), looks := true }, kinds := [], alts := [], laidByText := true, laidKinds := [.data, .data, .data, .data, .sentinel, .sentinel, .pinned], laidTests := true, laidLooks := .later }
def LoftNilUptoCardSaid : Prop := Claim7.holds Tryz.pinned (.plain (OpenSpec.upto loftNilSpec)) loftNilUptoCard
end Rows
end Go.Proofs.YthmimjofdmnakaaGreatDoor
