/-
  No cell of these rows narrows 'for every input' (looked for: loops, veiled, ifaces, maps, wideKeys, modest, calm, conditions, laid).
  DERIVED. THE GIVEN ROWS OF THIS SEAT. 7 by the template 'for every input the law returns true; each argument reads behind the call as it read before'; 0 by the template 'total and deterministic' (their statements: YtigakimfoanonaaTotals.lean).
  GIVEN WITH THE SEED: the statements are not yours to turn. If you find one false, say at which input.
  Laid BY PROGRAM, IN A SANDBOX (cutbox-rows.mjs): the forced cells as the released guide's own fill.sh prints them over the translation 1ab590ea66a5eb45… (all of the seat's roots in one cut). By AI agents, Wed Nov 11 2026. No macro, syntax, notation, axiom, sorry.
-/
import Derived.Test.YtigakimfoanonaaChecked
import GoSem.Claim
import GoSem.ClaimJoined
import GoSem.ClaimMapViews
import Derived.JoinedTies
import Derived.KernelRfl
namespace Go.Proofs.Ytigakimfoanonaa
/- THE CELL 'sum', in the pinned program and in every row, IS THE sha256 OF THE DUMP (.gsa) THAT YtigakimfoanonaaProg.lean LOADS. Nothing in Lean hashes anything: it is a label: what it is worth is what the hold of that sum in a sandbox is worth. -/
noncomputable def Try.pinned : Pinned := { name := "ytigakimfoanonaa", sum := "1ab590ea66a5eb457189f153c165210ad76cfa06c086fde7d7a1c82523b168b9", checked := Try.checked }
namespace Rows
def none {H : Type} : Left H := { results := [], args := [] }

/-- 'turnspitlaw03.TurnTells': WHATEVER THE INPUT: true; the input reads as it did. -/
def turnTellsSpec : ChangeSpec := { name := "turnTells", fn := fun _ => fun
  | [d1, d2, d3] => { results := [.lit (.bool true)], args := [d1, d2, d3] }
  | _ => none }
def turnTellsRow : OpenClaim := { program := "ytigakimfoanonaa", sum := "1ab590ea66a5eb457189f153c165210ad76cfa06c086fde7d7a1c82523b168b9", func := "turnspit/turnspitlaw03.TurnTells", spec := "turnTells", apart := false }
def TurnTellsSaid : Prop := turnTellsRow.holds Try.pinned (OpenSpec.ofChange turnTellsSpec)

/-- ITS FALSE NEIGHBOUR: 'it returns false'. Refute it at one input. -/
def turnTellsWrong : ChangeSpec := { name := "turnTells", fn := fun _ => fun
  | [d1, d2, d3] => { results := [.lit (.bool false)], args := [d1, d2, d3] }
  | _ => none }
def TurnTellsWrongFalsely : Prop := turnTellsRow.holds Try.pinned (OpenSpec.ofChange turnTellsWrong)

/-- 'turnspitlaw03.TurnClamps': WHATEVER THE INPUT: true; the input reads as it did. -/
def turnClampsSpec : ChangeSpec := { name := "turnClamps", fn := fun _ => fun
  | [d1, d2, d3] => { results := [.lit (.bool true)], args := [d1, d2, d3] }
  | _ => none }
def turnClampsRow : OpenClaim := { program := "ytigakimfoanonaa", sum := "1ab590ea66a5eb457189f153c165210ad76cfa06c086fde7d7a1c82523b168b9", func := "turnspit/turnspitlaw03.TurnClamps", spec := "turnClamps", apart := false }
def TurnClampsSaid : Prop := turnClampsRow.holds Try.pinned (OpenSpec.ofChange turnClampsSpec)

/-- ITS FALSE NEIGHBOUR: 'it returns false'. Refute it at one input. -/
def turnClampsWrong : ChangeSpec := { name := "turnClamps", fn := fun _ => fun
  | [d1, d2, d3] => { results := [.lit (.bool false)], args := [d1, d2, d3] }
  | _ => none }
def TurnClampsWrongFalsely : Prop := turnClampsRow.holds Try.pinned (OpenSpec.ofChange turnClampsWrong)

/-- 'turnspitlaw03.TurnSteps': WHATEVER THE INPUT: true; the input reads as it did. -/
def turnStepsSpec : ChangeSpec := { name := "turnSteps", fn := fun _ => fun
  | [d1, d2, d3] => { results := [.lit (.bool true)], args := [d1, d2, d3] }
  | _ => none }
def turnStepsRow : OpenClaim := { program := "ytigakimfoanonaa", sum := "1ab590ea66a5eb457189f153c165210ad76cfa06c086fde7d7a1c82523b168b9", func := "turnspit/turnspitlaw03.TurnSteps", spec := "turnSteps", apart := false }
def TurnStepsSaid : Prop := turnStepsRow.holds Try.pinned (OpenSpec.ofChange turnStepsSpec)

/-- ITS FALSE NEIGHBOUR: 'it returns false'. Refute it at one input. -/
def turnStepsWrong : ChangeSpec := { name := "turnSteps", fn := fun _ => fun
  | [d1, d2, d3] => { results := [.lit (.bool false)], args := [d1, d2, d3] }
  | _ => none }
def TurnStepsWrongFalsely : Prop := turnStepsRow.holds Try.pinned (OpenSpec.ofChange turnStepsWrong)

/-- 'turnspitlaw03.TurnBack': WHATEVER THE INPUT: true; the input reads as it did. -/
def turnBackSpec : ChangeSpec := { name := "turnBack", fn := fun _ => fun
  | [d1, d2, d3] => { results := [.lit (.bool true)], args := [d1, d2, d3] }
  | _ => none }
def turnBackRow : OpenClaim := { program := "ytigakimfoanonaa", sum := "1ab590ea66a5eb457189f153c165210ad76cfa06c086fde7d7a1c82523b168b9", func := "turnspit/turnspitlaw03.TurnBack", spec := "turnBack", apart := false }
def TurnBackSaid : Prop := turnBackRow.holds Try.pinned (OpenSpec.ofChange turnBackSpec)

/-- ITS FALSE NEIGHBOUR: 'it returns false'. Refute it at one input. -/
def turnBackWrong : ChangeSpec := { name := "turnBack", fn := fun _ => fun
  | [d1, d2, d3] => { results := [.lit (.bool false)], args := [d1, d2, d3] }
  | _ => none }
def TurnBackWrongFalsely : Prop := turnBackRow.holds Try.pinned (OpenSpec.ofChange turnBackWrong)

/-- 'turnspitlaw03.TurnOne': WHATEVER THE INPUT: true; the input reads as it did. -/
def turnOneSpec : ChangeSpec := { name := "turnOne", fn := fun _ => fun
  | [d1, d2] => { results := [.lit (.bool true)], args := [d1, d2] }
  | _ => none }
def turnOneRow : OpenClaim := { program := "ytigakimfoanonaa", sum := "1ab590ea66a5eb457189f153c165210ad76cfa06c086fde7d7a1c82523b168b9", func := "turnspit/turnspitlaw03.TurnOne", spec := "turnOne", apart := false }
def TurnOneSaid : Prop := turnOneRow.holds Try.pinned (OpenSpec.ofChange turnOneSpec)

/-- ITS FALSE NEIGHBOUR: 'it returns false'. Refute it at one input. -/
def turnOneWrong : ChangeSpec := { name := "turnOne", fn := fun _ => fun
  | [d1, d2] => { results := [.lit (.bool false)], args := [d1, d2] }
  | _ => none }
def TurnOneWrongFalsely : Prop := turnOneRow.holds Try.pinned (OpenSpec.ofChange turnOneWrong)

/-- 'turnspitlaw03.TurnOrder': WHATEVER THE INPUT: true; the input reads as it did. -/
def turnOrderSpec : ChangeSpec := { name := "turnOrder", fn := fun _ => fun
  | [d1, d2, d3] => { results := [.lit (.bool true)], args := [d1, d2, d3] }
  | _ => none }
def turnOrderRow : OpenClaim := { program := "ytigakimfoanonaa", sum := "1ab590ea66a5eb457189f153c165210ad76cfa06c086fde7d7a1c82523b168b9", func := "turnspit/turnspitlaw03.TurnOrder", spec := "turnOrder", apart := false }
def TurnOrderSaid : Prop := turnOrderRow.holds Try.pinned (OpenSpec.ofChange turnOrderSpec)

/-- ITS FALSE NEIGHBOUR: 'it returns false'. Refute it at one input. -/
def turnOrderWrong : ChangeSpec := { name := "turnOrder", fn := fun _ => fun
  | [d1, d2, d3] => { results := [.lit (.bool false)], args := [d1, d2, d3] }
  | _ => none }
def TurnOrderWrongFalsely : Prop := turnOrderRow.holds Try.pinned (OpenSpec.ofChange turnOrderWrong)

/-- 'turnspitlaw03.TurnBounds': WHATEVER THE INPUT: true; the input reads as it did. -/
def turnBoundsSpec : ChangeSpec := { name := "turnBounds", fn := fun _ => fun
  | [d1, d2, d3] => { results := [.lit (.bool true)], args := [d1, d2, d3] }
  | _ => none }
def turnBoundsRow : OpenClaim := { program := "ytigakimfoanonaa", sum := "1ab590ea66a5eb457189f153c165210ad76cfa06c086fde7d7a1c82523b168b9", func := "turnspit/turnspitlaw03.TurnBounds", spec := "turnBounds", apart := false }
def TurnBoundsSaid : Prop := turnBoundsRow.holds Try.pinned (OpenSpec.ofChange turnBoundsSpec)

/-- ITS FALSE NEIGHBOUR: 'it returns false'. Refute it at one input. -/
def turnBoundsWrong : ChangeSpec := { name := "turnBounds", fn := fun _ => fun
  | [d1, d2, d3] => { results := [.lit (.bool false)], args := [d1, d2, d3] }
  | _ => none }
def TurnBoundsWrongFalsely : Prop := turnBoundsRow.holds Try.pinned (OpenSpec.ofChange turnBoundsWrong)

/- THE SECOND FORM. 'bulk': how many values and letters a reading holds, each counted each time it is reached (what is shared counts as often as it is met; a slice's spare places count too). A statement '..UptoSaid' is the law's where the arguments, and the package variables that the reading takes, are together of bulk at most 1048576: NARROWER than '..Said'. Prove '..Said' where nothing that the law and all that it calls make is longer than what came in: it says more and counts as full. Else prove '..UptoSaid'. A law counts once. -/
mutual
def uptoBulk {H : Type} : DataW H → Nat
  | .lit (.string bytes) => bytes.length + 1
  | .lit _ => 1
  | .nil => 1
  | .ptr d => uptoBulk d + 1
  | .slice elems spare => uptoBulkAll elems + uptoBulkAll spare + 1
  | .agg parts => uptoBulkAll parts + 1
  | .iface _ d => uptoBulk d + 1
  | .map entries => uptoBulkEntries entries + 1
  | .held _ => 1
def uptoBulkAll {H : Type} : List (DataW H) → Nat
  | [] => 0
  | d :: r => uptoBulk d + uptoBulkAll r
def uptoBulkEntries {H : Type} : List (Lit × DataW H) → Nat
  | [] => 0
  | x :: r => uptoBulkEntry x + uptoBulkEntries r
def uptoBulkEntry {H : Type} : Lit × DataW H → Nat
  | (.string bytes, d) => bytes.length + uptoBulk d + 1
  | (_, d) => uptoBulk d + 1
 end
def uptoSmall : (H : Type) → List (DataW H) → Bool := fun _ ds => decide (uptoBulkAll ds ≤ 1048576)
def OpenSpec.upto (s : _root_.Go.ChangeSpec) : _root_.Go.OpenSpec := { _root_.Go.OpenSpec.ofChange s with cond := some uptoSmall }

/-- 'turnspitlaw03.TurnTells', WHERE WHAT IT READS IS OF BULK AT MOST 1048576: true; the input reads as it did. -/
def turnTellsUptoRow : OpenClaim := { program := "ytigakimfoanonaa", sum := "1ab590ea66a5eb457189f153c165210ad76cfa06c086fde7d7a1c82523b168b9", func := "turnspit/turnspitlaw03.TurnTells", spec := "turnTells", apart := false, narrowed := true }
def TurnTellsUptoSaid : Prop := turnTellsUptoRow.holds Try.pinned (OpenSpec.upto turnTellsSpec)

/-- 'turnspitlaw03.TurnClamps', WHERE WHAT IT READS IS OF BULK AT MOST 1048576: true; the input reads as it did. -/
def turnClampsUptoRow : OpenClaim := { program := "ytigakimfoanonaa", sum := "1ab590ea66a5eb457189f153c165210ad76cfa06c086fde7d7a1c82523b168b9", func := "turnspit/turnspitlaw03.TurnClamps", spec := "turnClamps", apart := false, narrowed := true }
def TurnClampsUptoSaid : Prop := turnClampsUptoRow.holds Try.pinned (OpenSpec.upto turnClampsSpec)

/-- 'turnspitlaw03.TurnSteps', WHERE WHAT IT READS IS OF BULK AT MOST 1048576: true; the input reads as it did. -/
def turnStepsUptoRow : OpenClaim := { program := "ytigakimfoanonaa", sum := "1ab590ea66a5eb457189f153c165210ad76cfa06c086fde7d7a1c82523b168b9", func := "turnspit/turnspitlaw03.TurnSteps", spec := "turnSteps", apart := false, narrowed := true }
def TurnStepsUptoSaid : Prop := turnStepsUptoRow.holds Try.pinned (OpenSpec.upto turnStepsSpec)

/-- 'turnspitlaw03.TurnBack', WHERE WHAT IT READS IS OF BULK AT MOST 1048576: true; the input reads as it did. -/
def turnBackUptoRow : OpenClaim := { program := "ytigakimfoanonaa", sum := "1ab590ea66a5eb457189f153c165210ad76cfa06c086fde7d7a1c82523b168b9", func := "turnspit/turnspitlaw03.TurnBack", spec := "turnBack", apart := false, narrowed := true }
def TurnBackUptoSaid : Prop := turnBackUptoRow.holds Try.pinned (OpenSpec.upto turnBackSpec)

/-- 'turnspitlaw03.TurnOne', WHERE WHAT IT READS IS OF BULK AT MOST 1048576: true; the input reads as it did. -/
def turnOneUptoRow : OpenClaim := { program := "ytigakimfoanonaa", sum := "1ab590ea66a5eb457189f153c165210ad76cfa06c086fde7d7a1c82523b168b9", func := "turnspit/turnspitlaw03.TurnOne", spec := "turnOne", apart := false, narrowed := true }
def TurnOneUptoSaid : Prop := turnOneUptoRow.holds Try.pinned (OpenSpec.upto turnOneSpec)

/-- 'turnspitlaw03.TurnOrder', WHERE WHAT IT READS IS OF BULK AT MOST 1048576: true; the input reads as it did. -/
def turnOrderUptoRow : OpenClaim := { program := "ytigakimfoanonaa", sum := "1ab590ea66a5eb457189f153c165210ad76cfa06c086fde7d7a1c82523b168b9", func := "turnspit/turnspitlaw03.TurnOrder", spec := "turnOrder", apart := false, narrowed := true }
def TurnOrderUptoSaid : Prop := turnOrderUptoRow.holds Try.pinned (OpenSpec.upto turnOrderSpec)

/-- 'turnspitlaw03.TurnBounds', WHERE WHAT IT READS IS OF BULK AT MOST 1048576: true; the input reads as it did. -/
def turnBoundsUptoRow : OpenClaim := { program := "ytigakimfoanonaa", sum := "1ab590ea66a5eb457189f153c165210ad76cfa06c086fde7d7a1c82523b168b9", func := "turnspit/turnspitlaw03.TurnBounds", spec := "turnBounds", apart := false, narrowed := true }
def TurnBoundsUptoSaid : Prop := turnBoundsUptoRow.holds Try.pinned (OpenSpec.upto turnBoundsSpec)

end Rows
end Go.Proofs.Ytigakimfoanonaa
