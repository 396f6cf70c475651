/-
  DERIVED. GIVEN WITH THE SEED: THE CARDS: each row of YtnkhnnojdlgfjaaGreatDoorRows.lean that lists a variable, with what it lists TIED to the program's text (the seventh form; the later family's looks); each row that meets fmt, with fmt's text TOLD by the authors' own Lean function (tested against real Go, not proved from fmt's source: count such statements apart). THE CARD IS WHAT COUNTS. Prove the row's statement (the work); the ties are given (YtnkhnnojdlgfjaaGreatDoorTie.lean); close each card by the builder's one call (the guide's Derived/Test/ToyasCard.lean, 'card_holds'). Laid BY PROGRAM, IN A SANDBOX (cutbox-door.mjs). By AI agents, Wed Nov 11 2026. No macro, syntax, notation, axiom, sorry.
-/
import Derived.Test.YtnkhnnojdlgfjaaGreatDoorRows
import GoSem.ClaimSeven
namespace Go.Proofs.YtnkhnnojdlgfjaaGreatDoor
namespace Rows

/-- THE TIED CARD OF 'turnspitlaw12.QueueFirst'. -/
def queueFirstCard : Claim7 := { stood := { row := queueFirstRow, standIns := [], harness := (true, "481664d76bf9d3d09dccadf15bc5002332fc52a6df6c6293de597d4df94f543a"), looks := false }, kinds := [], alts := [], laidByText := true, laidKinds := [.data], laidTests := true, laidLooks := .later }
def QueueFirstCardSaid : Prop := Claim7.holds Tryz.pinned (.plain (OpenSpec.ofChange queueFirstSpec)) queueFirstCard

/-- THE TIED CARD OF 'turnspitlaw12.QueueBack'. -/
def queueBackCard : Claim7 := { stood := { row := queueBackRow, standIns := [], harness := (true, "481664d76bf9d3d09dccadf15bc5002332fc52a6df6c6293de597d4df94f543a"), looks := false }, kinds := [], alts := [], laidByText := true, laidKinds := [.data], laidTests := true, laidLooks := .later }
def QueueBackCardSaid : Prop := Claim7.holds Tryz.pinned (.plain (OpenSpec.ofChange queueBackSpec)) queueBackCard

/-- THE TIED CARD OF 'turnspitlaw12.QueueTells'. -/
def queueTellsCard : Claim7 := { stood := { row := queueTellsRow, standIns := [], harness := (true, "481664d76bf9d3d09dccadf15bc5002332fc52a6df6c6293de597d4df94f543a"), looks := false }, kinds := [], alts := [], laidByText := true, laidKinds := [.data], laidTests := true, laidLooks := .later }
def QueueTellsCardSaid : Prop := Claim7.holds Tryz.pinned (.plain (OpenSpec.ofChange queueTellsSpec)) queueTellsCard

/-- THE TIED CARD OF 'turnspitlaw12.QueueMade'. -/
def queueMadeCard : Claim7 := { stood := { row := queueMadeRow, standIns := [], harness := (true, "481664d76bf9d3d09dccadf15bc5002332fc52a6df6c6293de597d4df94f543a"), looks := false }, kinds := [], alts := [], laidByText := true, laidKinds := [.data], laidTests := true, laidLooks := .later }
def QueueMadeCardSaid : Prop := Claim7.holds Tryz.pinned (.plain (OpenSpec.ofChange queueMadeSpec)) queueMadeCard

/-- THE TIED CARD OF 'turnspitlaw12.QueueRight'. -/
def queueRightCard : Claim7 := { stood := { row := queueRightRow, standIns := [], harness := (true, "481664d76bf9d3d09dccadf15bc5002332fc52a6df6c6293de597d4df94f543a"), looks := false }, kinds := [], alts := [], laidByText := true, laidKinds := [.data], laidTests := true, laidLooks := .later }
def QueueRightCardSaid : Prop := Claim7.holds Tryz.pinned (.plain (OpenSpec.ofChange queueRightSpec)) queueRightCard

/-- THE SECOND FORM's CARD OF 'turnspitlaw12.QueueFirst'. -/
def queueFirstUptoCard : Claim7 := { stood := { row := queueFirstUptoRow, standIns := [], harness := (true, "481664d76bf9d3d09dccadf15bc5002332fc52a6df6c6293de597d4df94f543a"), looks := false }, kinds := [], alts := [], laidByText := true, laidKinds := [.data], laidTests := true, laidLooks := .later }
def QueueFirstUptoCardSaid : Prop := Claim7.holds Tryz.pinned (.plain (OpenSpec.upto queueFirstSpec)) queueFirstUptoCard

/-- THE SECOND FORM's CARD OF 'turnspitlaw12.QueueBack'. -/
def queueBackUptoCard : Claim7 := { stood := { row := queueBackUptoRow, standIns := [], harness := (true, "481664d76bf9d3d09dccadf15bc5002332fc52a6df6c6293de597d4df94f543a"), looks := false }, kinds := [], alts := [], laidByText := true, laidKinds := [.data], laidTests := true, laidLooks := .later }
def QueueBackUptoCardSaid : Prop := Claim7.holds Tryz.pinned (.plain (OpenSpec.upto queueBackSpec)) queueBackUptoCard

/-- THE SECOND FORM's CARD OF 'turnspitlaw12.QueueTells'. -/
def queueTellsUptoCard : Claim7 := { stood := { row := queueTellsUptoRow, standIns := [], harness := (true, "481664d76bf9d3d09dccadf15bc5002332fc52a6df6c6293de597d4df94f543a"), looks := false }, kinds := [], alts := [], laidByText := true, laidKinds := [.data], laidTests := true, laidLooks := .later }
def QueueTellsUptoCardSaid : Prop := Claim7.holds Tryz.pinned (.plain (OpenSpec.upto queueTellsSpec)) queueTellsUptoCard

/-- THE SECOND FORM's CARD OF 'turnspitlaw12.QueueMade'. -/
def queueMadeUptoCard : Claim7 := { stood := { row := queueMadeUptoRow, standIns := [], harness := (true, "481664d76bf9d3d09dccadf15bc5002332fc52a6df6c6293de597d4df94f543a"), looks := false }, kinds := [], alts := [], laidByText := true, laidKinds := [.data], laidTests := true, laidLooks := .later }
def QueueMadeUptoCardSaid : Prop := Claim7.holds Tryz.pinned (.plain (OpenSpec.upto queueMadeSpec)) queueMadeUptoCard

/-- THE SECOND FORM's CARD OF 'turnspitlaw12.QueueRight'. -/
def queueRightUptoCard : Claim7 := { stood := { row := queueRightUptoRow, standIns := [], harness := (true, "481664d76bf9d3d09dccadf15bc5002332fc52a6df6c6293de597d4df94f543a"), looks := false }, kinds := [], alts := [], laidByText := true, laidKinds := [.data], laidTests := true, laidLooks := .later }
def QueueRightUptoCardSaid : Prop := Claim7.holds Tryz.pinned (.plain (OpenSpec.upto queueRightSpec)) queueRightUptoCard
end Rows
end Go.Proofs.YtnkhnnojdlgfjaaGreatDoor
