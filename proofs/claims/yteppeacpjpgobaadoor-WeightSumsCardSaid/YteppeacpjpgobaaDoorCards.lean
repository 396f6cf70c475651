/-
  DERIVED. GIVEN WITH THE SEED: THE CARDS: each row of YteppeacpjpgobaaDoorRows.lean that lists a variable, with what it lists TIED to the program's text (the seventh form; the later family's looks); each row that meets fmt, with fmt's text TOLD by the authors' own Lean function (tested against real Go, not proved from fmt's source: count such statements apart). THE CARD IS WHAT COUNTS. Prove the row's statement (the work); the ties are given (YteppeacpjpgobaaDoorTie.lean); close each card by the builder's one call (the guide's Derived/Test/ToyasCard.lean, 'card_holds'). Laid BY PROGRAM, IN A SANDBOX (cutbox-door.mjs). By AI agents, Wed Nov 11 2026. No macro, syntax, notation, axiom, sorry.
-/
import Derived.Test.YteppeacpjpgobaaDoorRows
import GoSem.ClaimSeven
namespace Go.Proofs.YteppeacpjpgobaaDoor
namespace Rows

/-- THE TIED CARD OF 'turnspitlaw02.WeightTells'. -/
def weightTellsCard : Claim7 := { stood := { row := weightTellsRow, standIns := [], harness := (true, "39e562e0db4f332243f74a8eb3ff1bcff3e2012dbe5bf3de23006286d0049731"), looks := false }, kinds := [], alts := [], laidByText := true, laidKinds := [.data], laidTests := true, laidLooks := .later }
def WeightTellsCardSaid : Prop := Claim7.holds Tryd.pinned (.plain (OpenSpec.ofChange weightTellsSpec)) weightTellsCard

/-- THE TIED CARD OF 'turnspitlaw02.WeightShares'. -/
def weightSharesCard : Claim7 := { stood := { row := weightSharesRow, standIns := [], harness := (true, "39e562e0db4f332243f74a8eb3ff1bcff3e2012dbe5bf3de23006286d0049731"), looks := false }, kinds := [], alts := [], laidByText := true, laidKinds := [.data], laidTests := true, laidLooks := .later }
def WeightSharesCardSaid : Prop := Claim7.holds Tryd.pinned (.plain (OpenSpec.ofChange weightSharesSpec)) weightSharesCard

/-- THE TIED CARD OF 'turnspitlaw02.WeightFalls'. -/
def weightFallsCard : Claim7 := { stood := { row := weightFallsRow, standIns := [], harness := (true, "39e562e0db4f332243f74a8eb3ff1bcff3e2012dbe5bf3de23006286d0049731"), looks := false }, kinds := [], alts := [], laidByText := true, laidKinds := [.data], laidTests := true, laidLooks := .later }
def WeightFallsCardSaid : Prop := Claim7.holds Tryd.pinned (.plain (OpenSpec.ofChange weightFallsSpec)) weightFallsCard

/-- THE TIED CARD OF 'turnspitlaw02.WeightBack'. -/
def weightBackCard : Claim7 := { stood := { row := weightBackRow, standIns := [], harness := (true, "39e562e0db4f332243f74a8eb3ff1bcff3e2012dbe5bf3de23006286d0049731"), looks := false }, kinds := [], alts := [], laidByText := true, laidKinds := [.data], laidTests := true, laidLooks := .later }
def WeightBackCardSaid : Prop := Claim7.holds Tryd.pinned (.plain (OpenSpec.ofChange weightBackSpec)) weightBackCard

/-- THE TIED CARD OF 'turnspitlaw02.WeightGrows'. -/
def weightGrowsCard : Claim7 := { stood := { row := weightGrowsRow, standIns := [], harness := (true, "39e562e0db4f332243f74a8eb3ff1bcff3e2012dbe5bf3de23006286d0049731"), looks := false }, kinds := [], alts := [], laidByText := true, laidKinds := [.data], laidTests := true, laidLooks := .later }
def WeightGrowsCardSaid : Prop := Claim7.holds Tryd.pinned (.plain (OpenSpec.ofChange weightGrowsSpec)) weightGrowsCard

/-- THE TIED CARD OF 'turnspitlaw02.WeightParts'. -/
def weightPartsCard : Claim7 := { stood := { row := weightPartsRow, standIns := [], harness := (true, "39e562e0db4f332243f74a8eb3ff1bcff3e2012dbe5bf3de23006286d0049731"), looks := false }, kinds := [], alts := [], laidByText := true, laidKinds := [.data], laidTests := true, laidLooks := .later }
def WeightPartsCardSaid : Prop := Claim7.holds Tryd.pinned (.plain (OpenSpec.ofChange weightPartsSpec)) weightPartsCard

/-- THE TIED CARD OF 'turnspitlaw02.WeightSums'. -/
def weightSumsCard : Claim7 := { stood := { row := weightSumsRow, standIns := [], harness := (true, "39e562e0db4f332243f74a8eb3ff1bcff3e2012dbe5bf3de23006286d0049731"), looks := false }, kinds := [], alts := [], laidByText := true, laidKinds := [.data], laidTests := true, laidLooks := .later }
def WeightSumsCardSaid : Prop := Claim7.holds Tryd.pinned (.plain (OpenSpec.ofChange weightSumsSpec)) weightSumsCard

/-- THE SECOND FORM's CARD OF 'turnspitlaw02.WeightTells'. -/
def weightTellsUptoCard : Claim7 := { stood := { row := weightTellsUptoRow, standIns := [], harness := (true, "39e562e0db4f332243f74a8eb3ff1bcff3e2012dbe5bf3de23006286d0049731"), looks := false }, kinds := [], alts := [], laidByText := true, laidKinds := [.data], laidTests := true, laidLooks := .later }
def WeightTellsUptoCardSaid : Prop := Claim7.holds Tryd.pinned (.plain (OpenSpec.upto weightTellsSpec)) weightTellsUptoCard

/-- THE SECOND FORM's CARD OF 'turnspitlaw02.WeightShares'. -/
def weightSharesUptoCard : Claim7 := { stood := { row := weightSharesUptoRow, standIns := [], harness := (true, "39e562e0db4f332243f74a8eb3ff1bcff3e2012dbe5bf3de23006286d0049731"), looks := false }, kinds := [], alts := [], laidByText := true, laidKinds := [.data], laidTests := true, laidLooks := .later }
def WeightSharesUptoCardSaid : Prop := Claim7.holds Tryd.pinned (.plain (OpenSpec.upto weightSharesSpec)) weightSharesUptoCard

/-- THE SECOND FORM's CARD OF 'turnspitlaw02.WeightFalls'. -/
def weightFallsUptoCard : Claim7 := { stood := { row := weightFallsUptoRow, standIns := [], harness := (true, "39e562e0db4f332243f74a8eb3ff1bcff3e2012dbe5bf3de23006286d0049731"), looks := false }, kinds := [], alts := [], laidByText := true, laidKinds := [.data], laidTests := true, laidLooks := .later }
def WeightFallsUptoCardSaid : Prop := Claim7.holds Tryd.pinned (.plain (OpenSpec.upto weightFallsSpec)) weightFallsUptoCard

/-- THE SECOND FORM's CARD OF 'turnspitlaw02.WeightBack'. -/
def weightBackUptoCard : Claim7 := { stood := { row := weightBackUptoRow, standIns := [], harness := (true, "39e562e0db4f332243f74a8eb3ff1bcff3e2012dbe5bf3de23006286d0049731"), looks := false }, kinds := [], alts := [], laidByText := true, laidKinds := [.data], laidTests := true, laidLooks := .later }
def WeightBackUptoCardSaid : Prop := Claim7.holds Tryd.pinned (.plain (OpenSpec.upto weightBackSpec)) weightBackUptoCard

/-- THE SECOND FORM's CARD OF 'turnspitlaw02.WeightGrows'. -/
def weightGrowsUptoCard : Claim7 := { stood := { row := weightGrowsUptoRow, standIns := [], harness := (true, "39e562e0db4f332243f74a8eb3ff1bcff3e2012dbe5bf3de23006286d0049731"), looks := false }, kinds := [], alts := [], laidByText := true, laidKinds := [.data], laidTests := true, laidLooks := .later }
def WeightGrowsUptoCardSaid : Prop := Claim7.holds Tryd.pinned (.plain (OpenSpec.upto weightGrowsSpec)) weightGrowsUptoCard

/-- THE SECOND FORM's CARD OF 'turnspitlaw02.WeightParts'. -/
def weightPartsUptoCard : Claim7 := { stood := { row := weightPartsUptoRow, standIns := [], harness := (true, "39e562e0db4f332243f74a8eb3ff1bcff3e2012dbe5bf3de23006286d0049731"), looks := false }, kinds := [], alts := [], laidByText := true, laidKinds := [.data], laidTests := true, laidLooks := .later }
def WeightPartsUptoCardSaid : Prop := Claim7.holds Tryd.pinned (.plain (OpenSpec.upto weightPartsSpec)) weightPartsUptoCard

/-- THE SECOND FORM's CARD OF 'turnspitlaw02.WeightSums'. -/
def weightSumsUptoCard : Claim7 := { stood := { row := weightSumsUptoRow, standIns := [], harness := (true, "39e562e0db4f332243f74a8eb3ff1bcff3e2012dbe5bf3de23006286d0049731"), looks := false }, kinds := [], alts := [], laidByText := true, laidKinds := [.data], laidTests := true, laidLooks := .later }
def WeightSumsUptoCardSaid : Prop := Claim7.holds Tryd.pinned (.plain (OpenSpec.upto weightSumsSpec)) weightSumsUptoCard
end Rows
end Go.Proofs.YteppeacpjpgobaaDoor
