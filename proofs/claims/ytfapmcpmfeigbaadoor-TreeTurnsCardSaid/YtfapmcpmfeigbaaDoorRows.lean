/-
  NARROWER THAN 'FOR EVERY INPUT', by the rows' own cells (each row's printed sentence says how): TreeTells: laid · TreeNew: laid · TreeMade: laid · TreeHolds: laid · TreeFlat: laid · TreeFirsts: laid · TreeTurns: laid.
  DERIVED. THE GIVEN ROWS OF THIS SEAT. 7 by the template 'for every input the law returns true; each argument reads behind the call as it read before'; 0 by the template 'total and deterministic' (their statements: YtfapmcpmfeigbaaDoorTotals.lean).
  GIVEN WITH THE SEED: the statements are not yours to turn. If you find one false, say at which input.
  Laid BY PROGRAM, IN A SANDBOX (cutbox-rows.mjs): the forced cells as the released guide's own fill.sh prints them over the translation b6d91cbeb431b943… (all of the seat's roots in one cut). By AI agents, Wed Nov 11 2026. No macro, syntax, notation, axiom, sorry.
-/
import Derived.Test.YtfapmcpmfeigbaaDoorChecked
import GoSem.Claim
import GoSem.ClaimJoined
import GoSem.ClaimMapViews
import Derived.JoinedTies
import Derived.KernelRfl
namespace Go.Proofs.YtfapmcpmfeigbaaDoor
/- THE CELL 'sum', in the pinned program and in every row, IS THE sha256 OF THE DUMP (.gsa) THAT YtfapmcpmfeigbaaDoorProg.lean LOADS. Nothing in Lean hashes anything: it is a label: what it is worth is what the hold of that sum in a sandbox is worth. -/
noncomputable def Tryd.pinned : Pinned := { name := "ytfapmcpmfeigbaadoor", sum := "b6d91cbeb431b94320341d09c6980f07e63d681da06c65ffdd3917b88992f98b", checked := Tryd.checked }
namespace Rows
def none {H : Type} : Left H := { results := [], args := [] }

/- WHAT THE LISTED PACKAGE-LEVEL VARIABLES READ AS WHEN THE CALL BEGINS. Each datum BY PROGRAM (the guide's laid-datum.mjs) off the statement by which the dump's own 'gosem.cut.vars' lays the variable. In a bare row this is a premise. The card (YtfapmcpmfeigbaaDoorCards.lean) ties it to the program's text. -/
def laid_turnspit_tree_empty {H : Type} : DataW H := .agg [.lit (.bool false), .lit (.bool false), .lit (.int .u64 0), .lit (.int .i64 (-1)), .lit (.int .i64 (-1)), .lit (.int .i64 (-1))]

/-- 'turnspitlaw09.TreeTells': WHATEVER THE INPUT: true; the input reads as it did. -/
def treeTellsSpec : ChangeSpec := { name := "treeTells", fn := fun _ => fun
  | [d1, d2, d3] => { results := [.lit (.bool true)], args := [d1, d2, d3] }
  | _ => none }
def treeTellsRow : OpenClaim := { program := "ytfapmcpmfeigbaadoor", sum := "b6d91cbeb431b94320341d09c6980f07e63d681da06c65ffdd3917b88992f98b", func := "turnspit/turnspitlaw09.TreeTells", spec := "treeTells", unfollowed := true, recurses := true, named := ["turnspit/tree.empty"], plainKeys := false, apart := false, laid := [("turnspit/tree.empty", laid_turnspit_tree_empty)] }
def TreeTellsSaid : Prop := treeTellsRow.holds Tryd.pinned (OpenSpec.ofChange treeTellsSpec)

/-- ITS FALSE NEIGHBOUR: 'it returns false'. Refute it at one input. -/
def treeTellsWrong : ChangeSpec := { name := "treeTells", fn := fun _ => fun
  | [d1, d2, d3] => { results := [.lit (.bool false)], args := [d1, d2, d3] }
  | _ => none }
def TreeTellsWrongFalsely : Prop := treeTellsRow.holds Tryd.pinned (OpenSpec.ofChange treeTellsWrong)

/-- 'turnspitlaw09.TreeNew': WHATEVER THE INPUT: true; the input reads as it did. -/
def treeNewSpec : ChangeSpec := { name := "treeNew", fn := fun _ => fun
  | [d] => { results := [.lit (.bool true)], args := [d] }
  | _ => none }
def treeNewRow : OpenClaim := { program := "ytfapmcpmfeigbaadoor", sum := "b6d91cbeb431b94320341d09c6980f07e63d681da06c65ffdd3917b88992f98b", func := "turnspit/turnspitlaw09.TreeNew", spec := "treeNew", unfollowed := true, recurses := true, named := ["turnspit/tree.empty"], plainKeys := false, apart := false, laid := [("turnspit/tree.empty", laid_turnspit_tree_empty)] }
def TreeNewSaid : Prop := treeNewRow.holds Tryd.pinned (OpenSpec.ofChange treeNewSpec)

/-- ITS FALSE NEIGHBOUR: 'it returns false'. Refute it at one input. -/
def treeNewWrong : ChangeSpec := { name := "treeNew", fn := fun _ => fun
  | [d] => { results := [.lit (.bool false)], args := [d] }
  | _ => none }
def TreeNewWrongFalsely : Prop := treeNewRow.holds Tryd.pinned (OpenSpec.ofChange treeNewWrong)

/-- 'turnspitlaw09.TreeMade': WHATEVER THE INPUT: true; the input reads as it did. -/
def treeMadeSpec : ChangeSpec := { name := "treeMade", fn := fun _ => fun
  | [d1, d2, d3] => { results := [.lit (.bool true)], args := [d1, d2, d3] }
  | _ => none }
def treeMadeRow : OpenClaim := { program := "ytfapmcpmfeigbaadoor", sum := "b6d91cbeb431b94320341d09c6980f07e63d681da06c65ffdd3917b88992f98b", func := "turnspit/turnspitlaw09.TreeMade", spec := "treeMade", unfollowed := true, recurses := true, named := ["turnspit/tree.empty"], plainKeys := false, apart := false, laid := [("turnspit/tree.empty", laid_turnspit_tree_empty)] }
def TreeMadeSaid : Prop := treeMadeRow.holds Tryd.pinned (OpenSpec.ofChange treeMadeSpec)

/-- ITS FALSE NEIGHBOUR: 'it returns false'. Refute it at one input. -/
def treeMadeWrong : ChangeSpec := { name := "treeMade", fn := fun _ => fun
  | [d1, d2, d3] => { results := [.lit (.bool false)], args := [d1, d2, d3] }
  | _ => none }
def TreeMadeWrongFalsely : Prop := treeMadeRow.holds Tryd.pinned (OpenSpec.ofChange treeMadeWrong)

/-- 'turnspitlaw09.TreeHolds': WHATEVER THE INPUT: true; the input reads as it did. -/
def treeHoldsSpec : ChangeSpec := { name := "treeHolds", fn := fun _ => fun
  | [d1, d2] => { results := [.lit (.bool true)], args := [d1, d2] }
  | _ => none }
def treeHoldsRow : OpenClaim := { program := "ytfapmcpmfeigbaadoor", sum := "b6d91cbeb431b94320341d09c6980f07e63d681da06c65ffdd3917b88992f98b", func := "turnspit/turnspitlaw09.TreeHolds", spec := "treeHolds", unfollowed := true, recurses := true, named := ["turnspit/tree.empty"], plainKeys := false, apart := false, laid := [("turnspit/tree.empty", laid_turnspit_tree_empty)] }
def TreeHoldsSaid : Prop := treeHoldsRow.holds Tryd.pinned (OpenSpec.ofChange treeHoldsSpec)

/-- ITS FALSE NEIGHBOUR: 'it returns false'. Refute it at one input. -/
def treeHoldsWrong : ChangeSpec := { name := "treeHolds", fn := fun _ => fun
  | [d1, d2] => { results := [.lit (.bool false)], args := [d1, d2] }
  | _ => none }
def TreeHoldsWrongFalsely : Prop := treeHoldsRow.holds Tryd.pinned (OpenSpec.ofChange treeHoldsWrong)

/-- 'turnspitlaw09.TreeFlat': WHATEVER THE INPUT: true; the input reads as it did. -/
def treeFlatSpec : ChangeSpec := { name := "treeFlat", fn := fun _ => fun
  | [d1, d2] => { results := [.lit (.bool true)], args := [d1, d2] }
  | _ => none }
def treeFlatRow : OpenClaim := { program := "ytfapmcpmfeigbaadoor", sum := "b6d91cbeb431b94320341d09c6980f07e63d681da06c65ffdd3917b88992f98b", func := "turnspit/turnspitlaw09.TreeFlat", spec := "treeFlat", unfollowed := true, recurses := true, named := ["turnspit/tree.empty"], plainKeys := false, apart := false, laid := [("turnspit/tree.empty", laid_turnspit_tree_empty)] }
def TreeFlatSaid : Prop := treeFlatRow.holds Tryd.pinned (OpenSpec.ofChange treeFlatSpec)

/-- ITS FALSE NEIGHBOUR: 'it returns false'. Refute it at one input. -/
def treeFlatWrong : ChangeSpec := { name := "treeFlat", fn := fun _ => fun
  | [d1, d2] => { results := [.lit (.bool false)], args := [d1, d2] }
  | _ => none }
def TreeFlatWrongFalsely : Prop := treeFlatRow.holds Tryd.pinned (OpenSpec.ofChange treeFlatWrong)

/-- 'turnspitlaw09.TreeFirsts': WHATEVER THE INPUT: true; the input reads as it did. -/
def treeFirstsSpec : ChangeSpec := { name := "treeFirsts", fn := fun _ => fun
  | [d1, d2] => { results := [.lit (.bool true)], args := [d1, d2] }
  | _ => none }
def treeFirstsRow : OpenClaim := { program := "ytfapmcpmfeigbaadoor", sum := "b6d91cbeb431b94320341d09c6980f07e63d681da06c65ffdd3917b88992f98b", func := "turnspit/turnspitlaw09.TreeFirsts", spec := "treeFirsts", unfollowed := true, recurses := true, named := ["turnspit/tree.empty"], plainKeys := false, apart := false, laid := [("turnspit/tree.empty", laid_turnspit_tree_empty)] }
def TreeFirstsSaid : Prop := treeFirstsRow.holds Tryd.pinned (OpenSpec.ofChange treeFirstsSpec)

/-- ITS FALSE NEIGHBOUR: 'it returns false'. Refute it at one input. -/
def treeFirstsWrong : ChangeSpec := { name := "treeFirsts", fn := fun _ => fun
  | [d1, d2] => { results := [.lit (.bool false)], args := [d1, d2] }
  | _ => none }
def TreeFirstsWrongFalsely : Prop := treeFirstsRow.holds Tryd.pinned (OpenSpec.ofChange treeFirstsWrong)

/-- 'turnspitlaw09.TreeTurns': WHATEVER THE INPUT: true; the input reads as it did. -/
def treeTurnsSpec : ChangeSpec := { name := "treeTurns", fn := fun _ => fun
  | [d1, d2, d3] => { results := [.lit (.bool true)], args := [d1, d2, d3] }
  | _ => none }
def treeTurnsRow : OpenClaim := { program := "ytfapmcpmfeigbaadoor", sum := "b6d91cbeb431b94320341d09c6980f07e63d681da06c65ffdd3917b88992f98b", func := "turnspit/turnspitlaw09.TreeTurns", spec := "treeTurns", unfollowed := true, recurses := true, named := ["turnspit/tree.empty"], plainKeys := false, apart := false, laid := [("turnspit/tree.empty", laid_turnspit_tree_empty)] }
def TreeTurnsSaid : Prop := treeTurnsRow.holds Tryd.pinned (OpenSpec.ofChange treeTurnsSpec)

/-- ITS FALSE NEIGHBOUR: 'it returns false'. Refute it at one input. -/
def treeTurnsWrong : ChangeSpec := { name := "treeTurns", fn := fun _ => fun
  | [d1, d2, d3] => { results := [.lit (.bool false)], args := [d1, d2, d3] }
  | _ => none }
def TreeTurnsWrongFalsely : Prop := treeTurnsRow.holds Tryd.pinned (OpenSpec.ofChange treeTurnsWrong)

/- THE SECOND FORM. 'bulk': how many values and letters a reading holds, each counted each time it is reached (what is shared counts as often as it is met; a slice's spare places count too). A statement '..UptoSaid' is the law's where the arguments, and the package variables that the reading takes, are together of bulk at most 1048576: NARROWER than '..Said'. Prove '..Said' where nothing that the law and all that it calls make is longer than what came in: it says more and counts as full. Else prove '..UptoSaid'. A law counts once. -/
mutual
def uptoBulk {H : Type} : DataW H → Nat
  | .lit (.string bytes) => bytes.length + 1
  | .lit _ => 1
  | .nil => 1
  | .ptr d => uptoBulk d + 1
  | .slice elems spare => uptoBulkAll elems + uptoBulkAll spare + 1
  | .agg parts => uptoBulkAll parts + 1
  | .iface _ d => uptoBulk d + 1
  | .map entries => uptoBulkEntries entries + 1
  | .held _ => 1
def uptoBulkAll {H : Type} : List (DataW H) → Nat
  | [] => 0
  | d :: r => uptoBulk d + uptoBulkAll r
def uptoBulkEntries {H : Type} : List (Lit × DataW H) → Nat
  | [] => 0
  | x :: r => uptoBulkEntry x + uptoBulkEntries r
def uptoBulkEntry {H : Type} : Lit × DataW H → Nat
  | (.string bytes, d) => bytes.length + uptoBulk d + 1
  | (_, d) => uptoBulk d + 1
 end
def uptoSmall : (H : Type) → List (DataW H) → Bool := fun _ ds => decide (uptoBulkAll ds ≤ 1048576)
def OpenSpec.upto (s : _root_.Go.ChangeSpec) : _root_.Go.OpenSpec := { _root_.Go.OpenSpec.ofChange s with cond := some uptoSmall }

/-- 'turnspitlaw09.TreeTells', WHERE WHAT IT READS IS OF BULK AT MOST 1048576: true; the input reads as it did. -/
def treeTellsUptoRow : OpenClaim := { program := "ytfapmcpmfeigbaadoor", sum := "b6d91cbeb431b94320341d09c6980f07e63d681da06c65ffdd3917b88992f98b", func := "turnspit/turnspitlaw09.TreeTells", spec := "treeTells", unfollowed := true, recurses := true, named := ["turnspit/tree.empty"], plainKeys := false, apart := false, laid := [("turnspit/tree.empty", laid_turnspit_tree_empty)], narrowed := true }
def TreeTellsUptoSaid : Prop := treeTellsUptoRow.holds Tryd.pinned (OpenSpec.upto treeTellsSpec)

/-- 'turnspitlaw09.TreeNew', WHERE WHAT IT READS IS OF BULK AT MOST 1048576: true; the input reads as it did. -/
def treeNewUptoRow : OpenClaim := { program := "ytfapmcpmfeigbaadoor", sum := "b6d91cbeb431b94320341d09c6980f07e63d681da06c65ffdd3917b88992f98b", func := "turnspit/turnspitlaw09.TreeNew", spec := "treeNew", unfollowed := true, recurses := true, named := ["turnspit/tree.empty"], plainKeys := false, apart := false, laid := [("turnspit/tree.empty", laid_turnspit_tree_empty)], narrowed := true }
def TreeNewUptoSaid : Prop := treeNewUptoRow.holds Tryd.pinned (OpenSpec.upto treeNewSpec)

/-- 'turnspitlaw09.TreeMade', WHERE WHAT IT READS IS OF BULK AT MOST 1048576: true; the input reads as it did. -/
def treeMadeUptoRow : OpenClaim := { program := "ytfapmcpmfeigbaadoor", sum := "b6d91cbeb431b94320341d09c6980f07e63d681da06c65ffdd3917b88992f98b", func := "turnspit/turnspitlaw09.TreeMade", spec := "treeMade", unfollowed := true, recurses := true, named := ["turnspit/tree.empty"], plainKeys := false, apart := false, laid := [("turnspit/tree.empty", laid_turnspit_tree_empty)], narrowed := true }
def TreeMadeUptoSaid : Prop := treeMadeUptoRow.holds Tryd.pinned (OpenSpec.upto treeMadeSpec)

/-- 'turnspitlaw09.TreeHolds', WHERE WHAT IT READS IS OF BULK AT MOST 1048576: true; the input reads as it did. -/
def treeHoldsUptoRow : OpenClaim := { program := "ytfapmcpmfeigbaadoor", sum := "b6d91cbeb431b94320341d09c6980f07e63d681da06c65ffdd3917b88992f98b", func := "turnspit/turnspitlaw09.TreeHolds", spec := "treeHolds", unfollowed := true, recurses := true, named := ["turnspit/tree.empty"], plainKeys := false, apart := false, laid := [("turnspit/tree.empty", laid_turnspit_tree_empty)], narrowed := true }
def TreeHoldsUptoSaid : Prop := treeHoldsUptoRow.holds Tryd.pinned (OpenSpec.upto treeHoldsSpec)

/-- 'turnspitlaw09.TreeFlat', WHERE WHAT IT READS IS OF BULK AT MOST 1048576: true; the input reads as it did. -/
def treeFlatUptoRow : OpenClaim := { program := "ytfapmcpmfeigbaadoor", sum := "b6d91cbeb431b94320341d09c6980f07e63d681da06c65ffdd3917b88992f98b", func := "turnspit/turnspitlaw09.TreeFlat", spec := "treeFlat", unfollowed := true, recurses := true, named := ["turnspit/tree.empty"], plainKeys := false, apart := false, laid := [("turnspit/tree.empty", laid_turnspit_tree_empty)], narrowed := true }
def TreeFlatUptoSaid : Prop := treeFlatUptoRow.holds Tryd.pinned (OpenSpec.upto treeFlatSpec)

/-- 'turnspitlaw09.TreeFirsts', WHERE WHAT IT READS IS OF BULK AT MOST 1048576: true; the input reads as it did. -/
def treeFirstsUptoRow : OpenClaim := { program := "ytfapmcpmfeigbaadoor", sum := "b6d91cbeb431b94320341d09c6980f07e63d681da06c65ffdd3917b88992f98b", func := "turnspit/turnspitlaw09.TreeFirsts", spec := "treeFirsts", unfollowed := true, recurses := true, named := ["turnspit/tree.empty"], plainKeys := false, apart := false, laid := [("turnspit/tree.empty", laid_turnspit_tree_empty)], narrowed := true }
def TreeFirstsUptoSaid : Prop := treeFirstsUptoRow.holds Tryd.pinned (OpenSpec.upto treeFirstsSpec)

/-- 'turnspitlaw09.TreeTurns', WHERE WHAT IT READS IS OF BULK AT MOST 1048576: true; the input reads as it did. -/
def treeTurnsUptoRow : OpenClaim := { program := "ytfapmcpmfeigbaadoor", sum := "b6d91cbeb431b94320341d09c6980f07e63d681da06c65ffdd3917b88992f98b", func := "turnspit/turnspitlaw09.TreeTurns", spec := "treeTurns", unfollowed := true, recurses := true, named := ["turnspit/tree.empty"], plainKeys := false, apart := false, laid := [("turnspit/tree.empty", laid_turnspit_tree_empty)], narrowed := true }
def TreeTurnsUptoSaid : Prop := treeTurnsUptoRow.holds Tryd.pinned (OpenSpec.upto treeTurnsSpec)

end Rows
end Go.Proofs.YtfapmcpmfeigbaaDoor
