/-
  NARROWER THAN 'FOR EVERY INPUT', by the rows' own cells (each row's printed sentence says how): QueueFirst: laid · QueueBack: laid · QueueTells: laid · QueueMade: laid · QueueRight: laid.
  DERIVED. THE GIVEN ROWS OF THIS SEAT. 5 by the template 'for every input the law returns true; each argument reads behind the call as it read before'; 0 by the template 'total and deterministic' (their statements: YtnkhnnojdlgfjaaGreatDoorTotals.lean).
  GIVEN WITH THE SEED: the statements are not yours to turn. If you find one false, say at which input.
  Laid BY PROGRAM, IN A SANDBOX (cutbox-rows.mjs): the forced cells as the released guide's own fill.sh prints them over the translation 12cef3678dd08a1b… (all of the seat's roots in one cut). By AI agents, Wed Nov 11 2026. No macro, syntax, notation, axiom, sorry.
-/
import Derived.Test.YtnkhnnojdlgfjaaGreatDoorChecked
import GoSem.Claim
import GoSem.ClaimJoined
import GoSem.ClaimMapViews
import Derived.JoinedTies
import Derived.KernelRfl
namespace Go.Proofs.YtnkhnnojdlgfjaaGreatDoor
/- THE CELL 'sum', in the pinned program and in every row, IS THE sha256 OF THE DUMP (.gsa) THAT YtnkhnnojdlgfjaaGreatDoorProg.lean LOADS. Nothing in Lean hashes anything: it is a label: what it is worth is what the hold of that sum in a sandbox is worth. -/
noncomputable def Tryz.pinned : Pinned := { name := "ytnkhnnojdlgfjaagreatdoor", sum := "12cef3678dd08a1b3b511e569cf1e6386e56de4247fbd1303fd27db0ade8a3eb", checked := Tryz.checked }
namespace Rows
def none {H : Type} : Left H := { results := [], args := [] }

/- WHAT THE LISTED PACKAGE-LEVEL VARIABLES READ AS WHEN THE CALL BEGINS. Each datum BY PROGRAM (the guide's laid-datum.mjs) off the statement by which the dump's own 'gosem.cut.vars' lays the variable. In a bare row this is a premise. The card (YtnkhnnojdlgfjaaGreatDoorCards.lean) ties it to the program's text. -/
def laid_turnspit_tree_empty {H : Type} : DataW H := .agg [.lit (.bool false), .lit (.bool false), .lit (.int .u64 0), .lit (.int .i64 (-1)), .lit (.int .i64 (-1)), .lit (.int .i64 (-1))]

/-- 'turnspitlaw12.QueueFirst': WHATEVER THE INPUT: true; the input reads as it did. -/
def queueFirstSpec : ChangeSpec := { name := "queueFirst", fn := fun _ => fun
  | [d1, d2] => { results := [.lit (.bool true)], args := [d1, d2] }
  | _ => none }
def queueFirstRow : OpenClaim := { program := "ytnkhnnojdlgfjaagreatdoor", sum := "12cef3678dd08a1b3b511e569cf1e6386e56de4247fbd1303fd27db0ade8a3eb", func := "turnspit/turnspitlaw12.QueueFirst", spec := "queueFirst", unfollowed := true, recurses := true, named := ["turnspit/tree.empty"], plainKeys := false, apart := false, laid := [("turnspit/tree.empty", laid_turnspit_tree_empty)] }
def QueueFirstSaid : Prop := queueFirstRow.holds Tryz.pinned (OpenSpec.ofChange queueFirstSpec)

/-- ITS FALSE NEIGHBOUR: 'it returns false'. Refute it at one input. -/
def queueFirstWrong : ChangeSpec := { name := "queueFirst", fn := fun _ => fun
  | [d1, d2] => { results := [.lit (.bool false)], args := [d1, d2] }
  | _ => none }
def QueueFirstWrongFalsely : Prop := queueFirstRow.holds Tryz.pinned (OpenSpec.ofChange queueFirstWrong)

/-- 'turnspitlaw12.QueueBack': WHATEVER THE INPUT: true; the input reads as it did. -/
def queueBackSpec : ChangeSpec := { name := "queueBack", fn := fun _ => fun
  | [d1, d2, d3] => { results := [.lit (.bool true)], args := [d1, d2, d3] }
  | _ => none }
def queueBackRow : OpenClaim := { program := "ytnkhnnojdlgfjaagreatdoor", sum := "12cef3678dd08a1b3b511e569cf1e6386e56de4247fbd1303fd27db0ade8a3eb", func := "turnspit/turnspitlaw12.QueueBack", spec := "queueBack", unfollowed := true, recurses := true, named := ["turnspit/tree.empty"], plainKeys := false, apart := false, laid := [("turnspit/tree.empty", laid_turnspit_tree_empty)] }
def QueueBackSaid : Prop := queueBackRow.holds Tryz.pinned (OpenSpec.ofChange queueBackSpec)

/-- ITS FALSE NEIGHBOUR: 'it returns false'. Refute it at one input. -/
def queueBackWrong : ChangeSpec := { name := "queueBack", fn := fun _ => fun
  | [d1, d2, d3] => { results := [.lit (.bool false)], args := [d1, d2, d3] }
  | _ => none }
def QueueBackWrongFalsely : Prop := queueBackRow.holds Tryz.pinned (OpenSpec.ofChange queueBackWrong)

/-- 'turnspitlaw12.QueueTells': WHATEVER THE INPUT: true; the input reads as it did. -/
def queueTellsSpec : ChangeSpec := { name := "queueTells", fn := fun _ => fun
  | [d] => { results := [.lit (.bool true)], args := [d] }
  | _ => none }
def queueTellsRow : OpenClaim := { program := "ytnkhnnojdlgfjaagreatdoor", sum := "12cef3678dd08a1b3b511e569cf1e6386e56de4247fbd1303fd27db0ade8a3eb", func := "turnspit/turnspitlaw12.QueueTells", spec := "queueTells", unfollowed := true, recurses := true, named := ["turnspit/tree.empty"], plainKeys := false, apart := false, laid := [("turnspit/tree.empty", laid_turnspit_tree_empty)] }
def QueueTellsSaid : Prop := queueTellsRow.holds Tryz.pinned (OpenSpec.ofChange queueTellsSpec)

/-- ITS FALSE NEIGHBOUR: 'it returns false'. Refute it at one input. -/
def queueTellsWrong : ChangeSpec := { name := "queueTells", fn := fun _ => fun
  | [d] => { results := [.lit (.bool false)], args := [d] }
  | _ => none }
def QueueTellsWrongFalsely : Prop := queueTellsRow.holds Tryz.pinned (OpenSpec.ofChange queueTellsWrong)

/-- 'turnspitlaw12.QueueMade': WHATEVER THE INPUT: true; the input reads as it did. -/
def queueMadeSpec : ChangeSpec := { name := "queueMade", fn := fun _ => fun
  | [d1, d2, d3] => { results := [.lit (.bool true)], args := [d1, d2, d3] }
  | _ => none }
def queueMadeRow : OpenClaim := { program := "ytnkhnnojdlgfjaagreatdoor", sum := "12cef3678dd08a1b3b511e569cf1e6386e56de4247fbd1303fd27db0ade8a3eb", func := "turnspit/turnspitlaw12.QueueMade", spec := "queueMade", unfollowed := true, recurses := true, named := ["turnspit/tree.empty"], plainKeys := false, apart := false, laid := [("turnspit/tree.empty", laid_turnspit_tree_empty)] }
def QueueMadeSaid : Prop := queueMadeRow.holds Tryz.pinned (OpenSpec.ofChange queueMadeSpec)

/-- ITS FALSE NEIGHBOUR: 'it returns false'. Refute it at one input. -/
def queueMadeWrong : ChangeSpec := { name := "queueMade", fn := fun _ => fun
  | [d1, d2, d3] => { results := [.lit (.bool false)], args := [d1, d2, d3] }
  | _ => none }
def QueueMadeWrongFalsely : Prop := queueMadeRow.holds Tryz.pinned (OpenSpec.ofChange queueMadeWrong)

/-- 'turnspitlaw12.QueueRight': WHATEVER THE INPUT: true; the input reads as it did. -/
def queueRightSpec : ChangeSpec := { name := "queueRight", fn := fun _ => fun
  | [d1, d2, d3] => { results := [.lit (.bool true)], args := [d1, d2, d3] }
  | _ => none }
def queueRightRow : OpenClaim := { program := "ytnkhnnojdlgfjaagreatdoor", sum := "12cef3678dd08a1b3b511e569cf1e6386e56de4247fbd1303fd27db0ade8a3eb", func := "turnspit/turnspitlaw12.QueueRight", spec := "queueRight", unfollowed := true, recurses := true, named := ["turnspit/tree.empty"], plainKeys := false, apart := false, laid := [("turnspit/tree.empty", laid_turnspit_tree_empty)] }
def QueueRightSaid : Prop := queueRightRow.holds Tryz.pinned (OpenSpec.ofChange queueRightSpec)

/-- ITS FALSE NEIGHBOUR: 'it returns false'. Refute it at one input. -/
def queueRightWrong : ChangeSpec := { name := "queueRight", fn := fun _ => fun
  | [d1, d2, d3] => { results := [.lit (.bool false)], args := [d1, d2, d3] }
  | _ => none }
def QueueRightWrongFalsely : Prop := queueRightRow.holds Tryz.pinned (OpenSpec.ofChange queueRightWrong)

/- THE SECOND FORM. 'bulk': how many values and letters a reading holds, each counted each time it is reached (what is shared counts as often as it is met; a slice's spare places count too). A statement '..UptoSaid' is the law's where the arguments, and the package variables that the reading takes, are together of bulk at most 1048576: NARROWER than '..Said'. Prove '..Said' where nothing that the law and all that it calls make is longer than what came in: it says more and counts as full. Else prove '..UptoSaid'. A law counts once. -/
mutual
def uptoBulk {H : Type} : DataW H → Nat
  | .lit (.string bytes) => bytes.length + 1
  | .lit _ => 1
  | .nil => 1
  | .ptr d => uptoBulk d + 1
  | .slice elems spare => uptoBulkAll elems + uptoBulkAll spare + 1
  | .agg parts => uptoBulkAll parts + 1
  | .iface _ d => uptoBulk d + 1
  | .map entries => uptoBulkEntries entries + 1
  | .held _ => 1
def uptoBulkAll {H : Type} : List (DataW H) → Nat
  | [] => 0
  | d :: r => uptoBulk d + uptoBulkAll r
def uptoBulkEntries {H : Type} : List (Lit × DataW H) → Nat
  | [] => 0
  | x :: r => uptoBulkEntry x + uptoBulkEntries r
def uptoBulkEntry {H : Type} : Lit × DataW H → Nat
  | (.string bytes, d) => bytes.length + uptoBulk d + 1
  | (_, d) => uptoBulk d + 1
 end
def uptoSmall : (H : Type) → List (DataW H) → Bool := fun _ ds => decide (uptoBulkAll ds ≤ 1048576)
def OpenSpec.upto (s : _root_.Go.ChangeSpec) : _root_.Go.OpenSpec := { _root_.Go.OpenSpec.ofChange s with cond := some uptoSmall }

/-- 'turnspitlaw12.QueueFirst', WHERE WHAT IT READS IS OF BULK AT MOST 1048576: true; the input reads as it did. -/
def queueFirstUptoRow : OpenClaim := { program := "ytnkhnnojdlgfjaagreatdoor", sum := "12cef3678dd08a1b3b511e569cf1e6386e56de4247fbd1303fd27db0ade8a3eb", func := "turnspit/turnspitlaw12.QueueFirst", spec := "queueFirst", unfollowed := true, recurses := true, named := ["turnspit/tree.empty"], plainKeys := false, apart := false, laid := [("turnspit/tree.empty", laid_turnspit_tree_empty)], narrowed := true }
def QueueFirstUptoSaid : Prop := queueFirstUptoRow.holds Tryz.pinned (OpenSpec.upto queueFirstSpec)

/-- 'turnspitlaw12.QueueBack', WHERE WHAT IT READS IS OF BULK AT MOST 1048576: true; the input reads as it did. -/
def queueBackUptoRow : OpenClaim := { program := "ytnkhnnojdlgfjaagreatdoor", sum := "12cef3678dd08a1b3b511e569cf1e6386e56de4247fbd1303fd27db0ade8a3eb", func := "turnspit/turnspitlaw12.QueueBack", spec := "queueBack", unfollowed := true, recurses := true, named := ["turnspit/tree.empty"], plainKeys := false, apart := false, laid := [("turnspit/tree.empty", laid_turnspit_tree_empty)], narrowed := true }
def QueueBackUptoSaid : Prop := queueBackUptoRow.holds Tryz.pinned (OpenSpec.upto queueBackSpec)

/-- 'turnspitlaw12.QueueTells', WHERE WHAT IT READS IS OF BULK AT MOST 1048576: true; the input reads as it did. -/
def queueTellsUptoRow : OpenClaim := { program := "ytnkhnnojdlgfjaagreatdoor", sum := "12cef3678dd08a1b3b511e569cf1e6386e56de4247fbd1303fd27db0ade8a3eb", func := "turnspit/turnspitlaw12.QueueTells", spec := "queueTells", unfollowed := true, recurses := true, named := ["turnspit/tree.empty"], plainKeys := false, apart := false, laid := [("turnspit/tree.empty", laid_turnspit_tree_empty)], narrowed := true }
def QueueTellsUptoSaid : Prop := queueTellsUptoRow.holds Tryz.pinned (OpenSpec.upto queueTellsSpec)

/-- 'turnspitlaw12.QueueMade', WHERE WHAT IT READS IS OF BULK AT MOST 1048576: true; the input reads as it did. -/
def queueMadeUptoRow : OpenClaim := { program := "ytnkhnnojdlgfjaagreatdoor", sum := "12cef3678dd08a1b3b511e569cf1e6386e56de4247fbd1303fd27db0ade8a3eb", func := "turnspit/turnspitlaw12.QueueMade", spec := "queueMade", unfollowed := true, recurses := true, named := ["turnspit/tree.empty"], plainKeys := false, apart := false, laid := [("turnspit/tree.empty", laid_turnspit_tree_empty)], narrowed := true }
def QueueMadeUptoSaid : Prop := queueMadeUptoRow.holds Tryz.pinned (OpenSpec.upto queueMadeSpec)

/-- 'turnspitlaw12.QueueRight', WHERE WHAT IT READS IS OF BULK AT MOST 1048576: true; the input reads as it did. -/
def queueRightUptoRow : OpenClaim := { program := "ytnkhnnojdlgfjaagreatdoor", sum := "12cef3678dd08a1b3b511e569cf1e6386e56de4247fbd1303fd27db0ade8a3eb", func := "turnspit/turnspitlaw12.QueueRight", spec := "queueRight", unfollowed := true, recurses := true, named := ["turnspit/tree.empty"], plainKeys := false, apart := false, laid := [("turnspit/tree.empty", laid_turnspit_tree_empty)], narrowed := true }
def QueueRightUptoSaid : Prop := queueRightUptoRow.holds Tryz.pinned (OpenSpec.upto queueRightSpec)

end Rows
end Go.Proofs.YtnkhnnojdlgfjaaGreatDoor
