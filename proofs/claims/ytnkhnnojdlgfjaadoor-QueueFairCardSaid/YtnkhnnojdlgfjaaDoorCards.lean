/-
  DERIVED. GIVEN WITH THE SEED: THE CARDS: each row of YtnkhnnojdlgfjaaDoorRows.lean that lists a variable, with what it lists TIED to the program's text (the seventh form; the later family's looks); each row that meets fmt, with fmt's text TOLD by the authors' own Lean function (tested against real Go, not proved from fmt's source: count such statements apart). THE CARD IS WHAT COUNTS. Prove the row's statement (the work); the ties are given (YtnkhnnojdlgfjaaDoorTie.lean); close each card by the builder's one call (the guide's Derived/Test/ToyasCard.lean, 'card_holds'). Laid BY PROGRAM, IN A SANDBOX (cutbox-door.mjs). By AI agents, Wed Nov 11 2026. No macro, syntax, notation, axiom, sorry.
-/
import Derived.Test.YtnkhnnojdlgfjaaDoorRows
import GoSem.ClaimSeven
namespace Go.Proofs.YtnkhnnojdlgfjaaDoor
namespace Rows

/-- THE TIED CARD OF 'turnspitlaw12.QueueNew'. -/
def queueNewCard : Claim7 := { stood := { row := queueNewRow, standIns := [], harness := (true, "a28e1775433eb4250c332f33f10ea00cf4b522bc364dc15aec8c44ec1214f2f7"), looks := false }, kinds := [], alts := [], laidByText := true, laidKinds := [.data], laidTests := true, laidLooks := .later }
def QueueNewCardSaid : Prop := Claim7.holds Tryd.pinned (.plain (OpenSpec.ofChange queueNewSpec)) queueNewCard

/-- THE TIED CARD OF 'turnspitlaw12.QueueFair'. -/
def queueFairCard : Claim7 := { stood := { row := queueFairRow, standIns := [], harness := (true, "a28e1775433eb4250c332f33f10ea00cf4b522bc364dc15aec8c44ec1214f2f7"), looks := false }, kinds := [], alts := [], laidByText := true, laidKinds := [.data], laidTests := true, laidLooks := .later }
def QueueFairCardSaid : Prop := Claim7.holds Tryd.pinned (.plain (OpenSpec.ofChange queueFairSpec)) queueFairCard

/-- THE SECOND FORM's CARD OF 'turnspitlaw12.QueueNew'. -/
def queueNewUptoCard : Claim7 := { stood := { row := queueNewUptoRow, standIns := [], harness := (true, "a28e1775433eb4250c332f33f10ea00cf4b522bc364dc15aec8c44ec1214f2f7"), looks := false }, kinds := [], alts := [], laidByText := true, laidKinds := [.data], laidTests := true, laidLooks := .later }
def QueueNewUptoCardSaid : Prop := Claim7.holds Tryd.pinned (.plain (OpenSpec.upto queueNewSpec)) queueNewUptoCard

/-- THE SECOND FORM's CARD OF 'turnspitlaw12.QueueFair'. -/
def queueFairUptoCard : Claim7 := { stood := { row := queueFairUptoRow, standIns := [], harness := (true, "a28e1775433eb4250c332f33f10ea00cf4b522bc364dc15aec8c44ec1214f2f7"), looks := false }, kinds := [], alts := [], laidByText := true, laidKinds := [.data], laidTests := true, laidLooks := .later }
def QueueFairUptoCardSaid : Prop := Claim7.holds Tryd.pinned (.plain (OpenSpec.upto queueFairSpec)) queueFairUptoCard
end Rows
end Go.Proofs.YtnkhnnojdlgfjaaDoor
