/-
  DERIVED. GIVEN WITH THE SEED: THE CARDS: each row of YtfapmcpmfeigbaaDoorRows.lean that lists a variable, with what it lists TIED to the program's text (the seventh form; the later family's looks); each row that meets fmt, with fmt's text TOLD by the authors' own Lean function (tested against real Go, not proved from fmt's source: count such statements apart). THE CARD IS WHAT COUNTS. Prove the row's statement (the work); the ties are given (YtfapmcpmfeigbaaDoorTie.lean); close each card by the builder's one call (the guide's Derived/Test/ToyasCard.lean, 'card_holds'). Laid BY PROGRAM, IN A SANDBOX (cutbox-door.mjs). By AI agents, Wed Nov 11 2026. No macro, syntax, notation, axiom, sorry.
-/
import Derived.Test.YtfapmcpmfeigbaaDoorRows
import GoSem.ClaimSeven
namespace Go.Proofs.YtfapmcpmfeigbaaDoor
namespace Rows

/-- THE TIED CARD OF 'turnspitlaw09.TreeTells'. -/
def treeTellsCard : Claim7 := { stood := { row := treeTellsRow, standIns := [], harness := (true, "4a363d93db4f4c43e10db97d92f75dc1c925cc4f244d0d546804930fd8c83181"), looks := false }, kinds := [], alts := [], laidByText := true, laidKinds := [.data], laidTests := true, laidLooks := .later }
def TreeTellsCardSaid : Prop := Claim7.holds Tryd.pinned (.plain (OpenSpec.ofChange treeTellsSpec)) treeTellsCard

/-- THE TIED CARD OF 'turnspitlaw09.TreeNew'. -/
def treeNewCard : Claim7 := { stood := { row := treeNewRow, standIns := [], harness := (true, "4a363d93db4f4c43e10db97d92f75dc1c925cc4f244d0d546804930fd8c83181"), looks := false }, kinds := [], alts := [], laidByText := true, laidKinds := [.data], laidTests := true, laidLooks := .later }
def TreeNewCardSaid : Prop := Claim7.holds Tryd.pinned (.plain (OpenSpec.ofChange treeNewSpec)) treeNewCard

/-- THE TIED CARD OF 'turnspitlaw09.TreeMade'. -/
def treeMadeCard : Claim7 := { stood := { row := treeMadeRow, standIns := [], harness := (true, "4a363d93db4f4c43e10db97d92f75dc1c925cc4f244d0d546804930fd8c83181"), looks := false }, kinds := [], alts := [], laidByText := true, laidKinds := [.data], laidTests := true, laidLooks := .later }
def TreeMadeCardSaid : Prop := Claim7.holds Tryd.pinned (.plain (OpenSpec.ofChange treeMadeSpec)) treeMadeCard

/-- THE TIED CARD OF 'turnspitlaw09.TreeHolds'. -/
def treeHoldsCard : Claim7 := { stood := { row := treeHoldsRow, standIns := [], harness := (true, "4a363d93db4f4c43e10db97d92f75dc1c925cc4f244d0d546804930fd8c83181"), looks := false }, kinds := [], alts := [], laidByText := true, laidKinds := [.data], laidTests := true, laidLooks := .later }
def TreeHoldsCardSaid : Prop := Claim7.holds Tryd.pinned (.plain (OpenSpec.ofChange treeHoldsSpec)) treeHoldsCard

/-- THE TIED CARD OF 'turnspitlaw09.TreeFlat'. -/
def treeFlatCard : Claim7 := { stood := { row := treeFlatRow, standIns := [], harness := (true, "4a363d93db4f4c43e10db97d92f75dc1c925cc4f244d0d546804930fd8c83181"), looks := false }, kinds := [], alts := [], laidByText := true, laidKinds := [.data], laidTests := true, laidLooks := .later }
def TreeFlatCardSaid : Prop := Claim7.holds Tryd.pinned (.plain (OpenSpec.ofChange treeFlatSpec)) treeFlatCard

/-- THE TIED CARD OF 'turnspitlaw09.TreeFirsts'. -/
def treeFirstsCard : Claim7 := { stood := { row := treeFirstsRow, standIns := [], harness := (true, "4a363d93db4f4c43e10db97d92f75dc1c925cc4f244d0d546804930fd8c83181"), looks := false }, kinds := [], alts := [], laidByText := true, laidKinds := [.data], laidTests := true, laidLooks := .later }
def TreeFirstsCardSaid : Prop := Claim7.holds Tryd.pinned (.plain (OpenSpec.ofChange treeFirstsSpec)) treeFirstsCard

/-- THE TIED CARD OF 'turnspitlaw09.TreeTurns'. -/
def treeTurnsCard : Claim7 := { stood := { row := treeTurnsRow, standIns := [], harness := (true, "4a363d93db4f4c43e10db97d92f75dc1c925cc4f244d0d546804930fd8c83181"), looks := false }, kinds := [], alts := [], laidByText := true, laidKinds := [.data], laidTests := true, laidLooks := .later }
def TreeTurnsCardSaid : Prop := Claim7.holds Tryd.pinned (.plain (OpenSpec.ofChange treeTurnsSpec)) treeTurnsCard

/-- THE SECOND FORM's CARD OF 'turnspitlaw09.TreeTells'. -/
def treeTellsUptoCard : Claim7 := { stood := { row := treeTellsUptoRow, standIns := [], harness := (true, "4a363d93db4f4c43e10db97d92f75dc1c925cc4f244d0d546804930fd8c83181"), looks := false }, kinds := [], alts := [], laidByText := true, laidKinds := [.data], laidTests := true, laidLooks := .later }
def TreeTellsUptoCardSaid : Prop := Claim7.holds Tryd.pinned (.plain (OpenSpec.upto treeTellsSpec)) treeTellsUptoCard

/-- THE SECOND FORM's CARD OF 'turnspitlaw09.TreeNew'. -/
def treeNewUptoCard : Claim7 := { stood := { row := treeNewUptoRow, standIns := [], harness := (true, "4a363d93db4f4c43e10db97d92f75dc1c925cc4f244d0d546804930fd8c83181"), looks := false }, kinds := [], alts := [], laidByText := true, laidKinds := [.data], laidTests := true, laidLooks := .later }
def TreeNewUptoCardSaid : Prop := Claim7.holds Tryd.pinned (.plain (OpenSpec.upto treeNewSpec)) treeNewUptoCard

/-- THE SECOND FORM's CARD OF 'turnspitlaw09.TreeMade'. -/
def treeMadeUptoCard : Claim7 := { stood := { row := treeMadeUptoRow, standIns := [], harness := (true, "4a363d93db4f4c43e10db97d92f75dc1c925cc4f244d0d546804930fd8c83181"), looks := false }, kinds := [], alts := [], laidByText := true, laidKinds := [.data], laidTests := true, laidLooks := .later }
def TreeMadeUptoCardSaid : Prop := Claim7.holds Tryd.pinned (.plain (OpenSpec.upto treeMadeSpec)) treeMadeUptoCard

/-- THE SECOND FORM's CARD OF 'turnspitlaw09.TreeHolds'. -/
def treeHoldsUptoCard : Claim7 := { stood := { row := treeHoldsUptoRow, standIns := [], harness := (true, "4a363d93db4f4c43e10db97d92f75dc1c925cc4f244d0d546804930fd8c83181"), looks := false }, kinds := [], alts := [], laidByText := true, laidKinds := [.data], laidTests := true, laidLooks := .later }
def TreeHoldsUptoCardSaid : Prop := Claim7.holds Tryd.pinned (.plain (OpenSpec.upto treeHoldsSpec)) treeHoldsUptoCard

/-- THE SECOND FORM's CARD OF 'turnspitlaw09.TreeFlat'. -/
def treeFlatUptoCard : Claim7 := { stood := { row := treeFlatUptoRow, standIns := [], harness := (true, "4a363d93db4f4c43e10db97d92f75dc1c925cc4f244d0d546804930fd8c83181"), looks := false }, kinds := [], alts := [], laidByText := true, laidKinds := [.data], laidTests := true, laidLooks := .later }
def TreeFlatUptoCardSaid : Prop := Claim7.holds Tryd.pinned (.plain (OpenSpec.upto treeFlatSpec)) treeFlatUptoCard

/-- THE SECOND FORM's CARD OF 'turnspitlaw09.TreeFirsts'. -/
def treeFirstsUptoCard : Claim7 := { stood := { row := treeFirstsUptoRow, standIns := [], harness := (true, "4a363d93db4f4c43e10db97d92f75dc1c925cc4f244d0d546804930fd8c83181"), looks := false }, kinds := [], alts := [], laidByText := true, laidKinds := [.data], laidTests := true, laidLooks := .later }
def TreeFirstsUptoCardSaid : Prop := Claim7.holds Tryd.pinned (.plain (OpenSpec.upto treeFirstsSpec)) treeFirstsUptoCard

/-- THE SECOND FORM's CARD OF 'turnspitlaw09.TreeTurns'. -/
def treeTurnsUptoCard : Claim7 := { stood := { row := treeTurnsUptoRow, standIns := [], harness := (true, "4a363d93db4f4c43e10db97d92f75dc1c925cc4f244d0d546804930fd8c83181"), looks := false }, kinds := [], alts := [], laidByText := true, laidKinds := [.data], laidTests := true, laidLooks := .later }
def TreeTurnsUptoCardSaid : Prop := Claim7.holds Tryd.pinned (.plain (OpenSpec.upto treeTurnsSpec)) treeTurnsUptoCard
end Rows
end Go.Proofs.YtfapmcpmfeigbaaDoor
