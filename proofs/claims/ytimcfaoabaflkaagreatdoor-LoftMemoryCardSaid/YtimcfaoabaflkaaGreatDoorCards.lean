/-
  DERIVED. GIVEN WITH THE SEED: THE CARDS: each row of YtimcfaoabaflkaaGreatDoorRows.lean that lists a variable, with what it lists TIED to the program's text (the seventh form; the later family's looks); each row that meets fmt, with fmt's text TOLD by the authors' own Lean function (tested against real Go, not proved from fmt's source: count such statements apart). THE CARD IS WHAT COUNTS. Prove the row's statement (the work); the ties are given (YtimcfaoabaflkaaGreatDoorTie.lean); close each card by the builder's one call (the guide's Derived/Test/ToyasCard.lean, 'card_holds'). Laid BY PROGRAM, IN A SANDBOX (cutbox-door.mjs). By AI agents, Wed Nov 11 2026. No macro, syntax, notation, axiom, sorry.
-/
import Derived.Test.YtimcfaoabaflkaaGreatDoorRows
import GoSem.ClaimSeven
namespace Go.Proofs.YtimcfaoabaflkaaGreatDoor
namespace Rows

/-- THE TIED CARD OF 'stricklelaw09.LoftTold'. -/
def loftToldCard : Claim7 := { stood := { row := loftToldRow, standIns := [], harness := (true, "937ce4180b7e0530971f9c10e838baacdee34d16f0adff7030cd4e3c59a4d404"), looks := true }, kinds := [], alts := [], laidByText := true, laidKinds := [.data, .data, .data, .data, .sentinel, .sentinel, .pinned], laidTests := true, laidLooks := .later }
def LoftToldCardSaid : Prop := Claim7.holds Tryz.pinned (.plain (OpenSpec.ofChange loftToldSpec)) loftToldCard

/-- THE TIED CARD OF 'stricklelaw09.LoftForms'. -/
def loftFormsCard : Claim7 := { stood := { row := loftFormsRow, standIns := [], harness := (true, "937ce4180b7e0530971f9c10e838baacdee34d16f0adff7030cd4e3c59a4d404"), looks := true }, kinds := [], alts := [], laidByText := true, laidKinds := [.data, .data, .data, .data, .sentinel, .sentinel, .pinned], laidTests := true, laidLooks := .later }
def LoftFormsCardSaid : Prop := Claim7.holds Tryz.pinned (.plain (OpenSpec.ofChange loftFormsSpec)) loftFormsCard

/-- THE TIED CARD OF 'stricklelaw09.LoftMemory'. -/
def loftMemoryCard : Claim7 := { stood := { row := loftMemoryRow, standIns := [], harness := (true, "937ce4180b7e0530971f9c10e838baacdee34d16f0adff7030cd4e3c59a4d404"), looks := true }, kinds := [], alts := [], laidByText := true, laidKinds := [.data, .data, .data, .data, .sentinel, .sentinel, .pinned], laidTests := true, laidLooks := .later }
def LoftMemoryCardSaid : Prop := Claim7.holds Tryz.pinned (.plain (OpenSpec.ofChange loftMemorySpec)) loftMemoryCard

/-- THE SECOND FORM's CARD OF 'stricklelaw09.LoftTold'. -/
def loftToldUptoCard : Claim7 := { stood := { row := loftToldUptoRow, standIns := [], harness := (true, "937ce4180b7e0530971f9c10e838baacdee34d16f0adff7030cd4e3c59a4d404"), looks := true }, kinds := [], alts := [], laidByText := true, laidKinds := [.data, .data, .data, .data, .sentinel, .sentinel, .pinned], laidTests := true, laidLooks := .later }
def LoftToldUptoCardSaid : Prop := Claim7.holds Tryz.pinned (.plain (OpenSpec.upto loftToldSpec)) loftToldUptoCard

/-- THE SECOND FORM's CARD OF 'stricklelaw09.LoftForms'. -/
def loftFormsUptoCard : Claim7 := { stood := { row := loftFormsUptoRow, standIns := [], harness := (true, "937ce4180b7e0530971f9c10e838baacdee34d16f0adff7030cd4e3c59a4d404"), looks := true }, kinds := [], alts := [], laidByText := true, laidKinds := [.data, .data, .data, .data, .sentinel, .sentinel, .pinned], laidTests := true, laidLooks := .later }
def LoftFormsUptoCardSaid : Prop := Claim7.holds Tryz.pinned (.plain (OpenSpec.upto loftFormsSpec)) loftFormsUptoCard

/-- THE SECOND FORM's CARD OF 'stricklelaw09.LoftMemory'. -/
def loftMemoryUptoCard : Claim7 := { stood := { row := loftMemoryUptoRow, standIns := [], harness := (true, "937ce4180b7e0530971f9c10e838baacdee34d16f0adff7030cd4e3c59a4d404"), looks := true }, kinds := [], alts := [], laidByText := true, laidKinds := [.data, .data, .data, .data, .sentinel, .sentinel, .pinned], laidTests := true, laidLooks := .later }
def LoftMemoryUptoCardSaid : Prop := Claim7.holds Tryz.pinned (.plain (OpenSpec.upto loftMemorySpec)) loftMemoryUptoCard
end Rows
end Go.Proofs.YtimcfaoabaflkaaGreatDoor
