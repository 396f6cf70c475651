/-
  No cell of these rows narrows 'for every input' (looked for: loops, veiled, ifaces, maps, wideKeys, modest, calm, conditions, laid).
  DERIVED. THE GIVEN ROWS OF THIS SEAT. 6 by the template 'for every input the law returns true; each argument reads behind the call as it read before'; 0 by the template 'total and deterministic' (their statements: YtahnkldkbbkflaaTotals.lean).
  GIVEN WITH THE SEED: the statements are not yours to turn. If you find one false, say at which input.
  Laid BY PROGRAM, IN A SANDBOX (cutbox-rows.mjs): the forced cells as the released guide's own fill.sh prints them over the translation 3e15e5281378cfad… (all of the seat's roots in one cut). By AI agents, Wed Nov 11 2026. No macro, syntax, notation, axiom, sorry.
-/
import Derived.Test.YtahnkldkbbkflaaChecked
import GoSem.Claim
import GoSem.ClaimJoined
import GoSem.ClaimMapViews
import Derived.JoinedTies
import Derived.KernelRfl
namespace Go.Proofs.Ytahnkldkbbkflaa
/- THE CELL 'sum', in the pinned program and in every row, IS THE sha256 OF THE DUMP (.gsa) THAT YtahnkldkbbkflaaProg.lean LOADS. Nothing in Lean hashes anything: it is a label: what it is worth is what the hold of that sum in a sandbox is worth. -/
noncomputable def Try.pinned : Pinned := { name := "ytahnkldkbbkflaa", sum := "3e15e5281378cfad93ef91ca7481d12937236ec19a30ede162a8ac66b5b52f34", checked := Try.checked }
namespace Rows
def none {H : Type} : Left H := { results := [], args := [] }

/-- 'turnspitlaw08.KeyTells': WHATEVER THE INPUT: true; the input reads as it did. -/
def keyTellsSpec : ChangeSpec := { name := "keyTells", fn := fun _ => fun
  | [d1, d2] => { results := [.lit (.bool true)], args := [d1, d2] }
  | _ => none }
def keyTellsRow : OpenClaim := { program := "ytahnkldkbbkflaa", sum := "3e15e5281378cfad93ef91ca7481d12937236ec19a30ede162a8ac66b5b52f34", func := "turnspit/turnspitlaw08.KeyTells", spec := "keyTells", inPlace := ["slices.overlaps[turnspit/api.Key]"], unfollowed := true, recurses := true, plainKeys := false, apart := false }
def KeyTellsSaid : Prop := keyTellsRow.holds Try.pinned (OpenSpec.ofChange keyTellsSpec)

/-- ITS FALSE NEIGHBOUR: 'it returns false'. Refute it at one input. -/
def keyTellsWrong : ChangeSpec := { name := "keyTells", fn := fun _ => fun
  | [d1, d2] => { results := [.lit (.bool false)], args := [d1, d2] }
  | _ => none }
def KeyTellsWrongFalsely : Prop := keyTellsRow.holds Try.pinned (OpenSpec.ofChange keyTellsWrong)

/-- 'turnspitlaw08.KeyPuts': WHATEVER THE INPUT: true; the input reads as it did. -/
def keyPutsSpec : ChangeSpec := { name := "keyPuts", fn := fun _ => fun
  | [d1, d2, d3] => { results := [.lit (.bool true)], args := [d1, d2, d3] }
  | _ => none }
def keyPutsRow : OpenClaim := { program := "ytahnkldkbbkflaa", sum := "3e15e5281378cfad93ef91ca7481d12937236ec19a30ede162a8ac66b5b52f34", func := "turnspit/turnspitlaw08.KeyPuts", spec := "keyPuts", inPlace := ["slices.overlaps[turnspit/api.Key]"], unfollowed := true, recurses := true, plainKeys := false, apart := false }
def KeyPutsSaid : Prop := keyPutsRow.holds Try.pinned (OpenSpec.ofChange keyPutsSpec)

/-- ITS FALSE NEIGHBOUR: 'it returns false'. Refute it at one input. -/
def keyPutsWrong : ChangeSpec := { name := "keyPuts", fn := fun _ => fun
  | [d1, d2, d3] => { results := [.lit (.bool false)], args := [d1, d2, d3] }
  | _ => none }
def KeyPutsWrongFalsely : Prop := keyPutsRow.holds Try.pinned (OpenSpec.ofChange keyPutsWrong)

/-- 'turnspitlaw08.KeyOrder': WHATEVER THE INPUT: true; the input reads as it did. -/
def keyOrderSpec : ChangeSpec := { name := "keyOrder", fn := fun _ => fun
  | [d1, d2, d3] => { results := [.lit (.bool true)], args := [d1, d2, d3] }
  | _ => none }
def keyOrderRow : OpenClaim := { program := "ytahnkldkbbkflaa", sum := "3e15e5281378cfad93ef91ca7481d12937236ec19a30ede162a8ac66b5b52f34", func := "turnspit/turnspitlaw08.KeyOrder", spec := "keyOrder", inPlace := ["slices.overlaps[turnspit/api.Key]"], unfollowed := true, recurses := true, plainKeys := false, apart := false }
def KeyOrderSaid : Prop := keyOrderRow.holds Try.pinned (OpenSpec.ofChange keyOrderSpec)

/-- ITS FALSE NEIGHBOUR: 'it returns false'. Refute it at one input. -/
def keyOrderWrong : ChangeSpec := { name := "keyOrder", fn := fun _ => fun
  | [d1, d2, d3] => { results := [.lit (.bool false)], args := [d1, d2, d3] }
  | _ => none }
def KeyOrderWrongFalsely : Prop := keyOrderRow.holds Try.pinned (OpenSpec.ofChange keyOrderWrong)

/-- 'turnspitlaw08.KeyMade': WHATEVER THE INPUT: true; the input reads as it did. -/
def keyMadeSpec : ChangeSpec := { name := "keyMade", fn := fun _ => fun
  | [d1, d2, d3] => { results := [.lit (.bool true)], args := [d1, d2, d3] }
  | _ => none }
def keyMadeRow : OpenClaim := { program := "ytahnkldkbbkflaa", sum := "3e15e5281378cfad93ef91ca7481d12937236ec19a30ede162a8ac66b5b52f34", func := "turnspit/turnspitlaw08.KeyMade", spec := "keyMade", inPlace := ["slices.overlaps[turnspit/api.Key]"], unfollowed := true, recurses := true, plainKeys := false, apart := false }
def KeyMadeSaid : Prop := keyMadeRow.holds Try.pinned (OpenSpec.ofChange keyMadeSpec)

/-- ITS FALSE NEIGHBOUR: 'it returns false'. Refute it at one input. -/
def keyMadeWrong : ChangeSpec := { name := "keyMade", fn := fun _ => fun
  | [d1, d2, d3] => { results := [.lit (.bool false)], args := [d1, d2, d3] }
  | _ => none }
def KeyMadeWrongFalsely : Prop := keyMadeRow.holds Try.pinned (OpenSpec.ofChange keyMadeWrong)

/-- 'turnspitlaw08.KeyTurns': WHATEVER THE INPUT: true; the input reads as it did. -/
def keyTurnsSpec : ChangeSpec := { name := "keyTurns", fn := fun _ => fun
  | [d1, d2, d3] => { results := [.lit (.bool true)], args := [d1, d2, d3] }
  | _ => none }
def keyTurnsRow : OpenClaim := { program := "ytahnkldkbbkflaa", sum := "3e15e5281378cfad93ef91ca7481d12937236ec19a30ede162a8ac66b5b52f34", func := "turnspit/turnspitlaw08.KeyTurns", spec := "keyTurns", inPlace := ["slices.overlaps[turnspit/api.Key]"], unfollowed := true, recurses := true, plainKeys := false, apart := false }
def KeyTurnsSaid : Prop := keyTurnsRow.holds Try.pinned (OpenSpec.ofChange keyTurnsSpec)

/-- ITS FALSE NEIGHBOUR: 'it returns false'. Refute it at one input. -/
def keyTurnsWrong : ChangeSpec := { name := "keyTurns", fn := fun _ => fun
  | [d1, d2, d3] => { results := [.lit (.bool false)], args := [d1, d2, d3] }
  | _ => none }
def KeyTurnsWrongFalsely : Prop := keyTurnsRow.holds Try.pinned (OpenSpec.ofChange keyTurnsWrong)

/-- 'turnspitlaw08.KeyOnce': WHATEVER THE INPUT: true; the input reads as it did. -/
def keyOnceSpec : ChangeSpec := { name := "keyOnce", fn := fun _ => fun
  | [d1, d2, d3] => { results := [.lit (.bool true)], args := [d1, d2, d3] }
  | _ => none }
def keyOnceRow : OpenClaim := { program := "ytahnkldkbbkflaa", sum := "3e15e5281378cfad93ef91ca7481d12937236ec19a30ede162a8ac66b5b52f34", func := "turnspit/turnspitlaw08.KeyOnce", spec := "keyOnce", inPlace := ["slices.overlaps[turnspit/api.Key]"], unfollowed := true, recurses := true, plainKeys := false, apart := false }
def KeyOnceSaid : Prop := keyOnceRow.holds Try.pinned (OpenSpec.ofChange keyOnceSpec)

/-- ITS FALSE NEIGHBOUR: 'it returns false'. Refute it at one input. -/
def keyOnceWrong : ChangeSpec := { name := "keyOnce", fn := fun _ => fun
  | [d1, d2, d3] => { results := [.lit (.bool false)], args := [d1, d2, d3] }
  | _ => none }
def KeyOnceWrongFalsely : Prop := keyOnceRow.holds Try.pinned (OpenSpec.ofChange keyOnceWrong)

/- THE SECOND FORM. 'bulk': how many values and letters a reading holds, each counted each time it is reached (what is shared counts as often as it is met; a slice's spare places count too). A statement '..UptoSaid' is the law's where the arguments, and the package variables that the reading takes, are together of bulk at most 1048576: NARROWER than '..Said'. Prove '..Said' where nothing that the law and all that it calls make is longer than what came in: it says more and counts as full. Else prove '..UptoSaid'. A law counts once. -/
mutual
def uptoBulk {H : Type} : DataW H → Nat
  | .lit (.string bytes) => bytes.length + 1
  | .lit _ => 1
  | .nil => 1
  | .ptr d => uptoBulk d + 1
  | .slice elems spare => uptoBulkAll elems + uptoBulkAll spare + 1
  | .agg parts => uptoBulkAll parts + 1
  | .iface _ d => uptoBulk d + 1
  | .map entries => uptoBulkEntries entries + 1
  | .held _ => 1
def uptoBulkAll {H : Type} : List (DataW H) → Nat
  | [] => 0
  | d :: r => uptoBulk d + uptoBulkAll r
def uptoBulkEntries {H : Type} : List (Lit × DataW H) → Nat
  | [] => 0
  | x :: r => uptoBulkEntry x + uptoBulkEntries r
def uptoBulkEntry {H : Type} : Lit × DataW H → Nat
  | (.string bytes, d) => bytes.length + uptoBulk d + 1
  | (_, d) => uptoBulk d + 1
 end
def uptoSmall : (H : Type) → List (DataW H) → Bool := fun _ ds => decide (uptoBulkAll ds ≤ 1048576)
def OpenSpec.upto (s : _root_.Go.ChangeSpec) : _root_.Go.OpenSpec := { _root_.Go.OpenSpec.ofChange s with cond := some uptoSmall }

/-- 'turnspitlaw08.KeyTells', WHERE WHAT IT READS IS OF BULK AT MOST 1048576: true; the input reads as it did. -/
def keyTellsUptoRow : OpenClaim := { program := "ytahnkldkbbkflaa", sum := "3e15e5281378cfad93ef91ca7481d12937236ec19a30ede162a8ac66b5b52f34", func := "turnspit/turnspitlaw08.KeyTells", spec := "keyTells", inPlace := ["slices.overlaps[turnspit/api.Key]"], unfollowed := true, recurses := true, plainKeys := false, apart := false, narrowed := true }
def KeyTellsUptoSaid : Prop := keyTellsUptoRow.holds Try.pinned (OpenSpec.upto keyTellsSpec)

/-- 'turnspitlaw08.KeyPuts', WHERE WHAT IT READS IS OF BULK AT MOST 1048576: true; the input reads as it did. -/
def keyPutsUptoRow : OpenClaim := { program := "ytahnkldkbbkflaa", sum := "3e15e5281378cfad93ef91ca7481d12937236ec19a30ede162a8ac66b5b52f34", func := "turnspit/turnspitlaw08.KeyPuts", spec := "keyPuts", inPlace := ["slices.overlaps[turnspit/api.Key]"], unfollowed := true, recurses := true, plainKeys := false, apart := false, narrowed := true }
def KeyPutsUptoSaid : Prop := keyPutsUptoRow.holds Try.pinned (OpenSpec.upto keyPutsSpec)

/-- 'turnspitlaw08.KeyOrder', WHERE WHAT IT READS IS OF BULK AT MOST 1048576: true; the input reads as it did. -/
def keyOrderUptoRow : OpenClaim := { program := "ytahnkldkbbkflaa", sum := "3e15e5281378cfad93ef91ca7481d12937236ec19a30ede162a8ac66b5b52f34", func := "turnspit/turnspitlaw08.KeyOrder", spec := "keyOrder", inPlace := ["slices.overlaps[turnspit/api.Key]"], unfollowed := true, recurses := true, plainKeys := false, apart := false, narrowed := true }
def KeyOrderUptoSaid : Prop := keyOrderUptoRow.holds Try.pinned (OpenSpec.upto keyOrderSpec)

/-- 'turnspitlaw08.KeyMade', WHERE WHAT IT READS IS OF BULK AT MOST 1048576: true; the input reads as it did. -/
def keyMadeUptoRow : OpenClaim := { program := "ytahnkldkbbkflaa", sum := "3e15e5281378cfad93ef91ca7481d12937236ec19a30ede162a8ac66b5b52f34", func := "turnspit/turnspitlaw08.KeyMade", spec := "keyMade", inPlace := ["slices.overlaps[turnspit/api.Key]"], unfollowed := true, recurses := true, plainKeys := false, apart := false, narrowed := true }
def KeyMadeUptoSaid : Prop := keyMadeUptoRow.holds Try.pinned (OpenSpec.upto keyMadeSpec)

/-- 'turnspitlaw08.KeyTurns', WHERE WHAT IT READS IS OF BULK AT MOST 1048576: true; the input reads as it did. -/
def keyTurnsUptoRow : OpenClaim := { program := "ytahnkldkbbkflaa", sum := "3e15e5281378cfad93ef91ca7481d12937236ec19a30ede162a8ac66b5b52f34", func := "turnspit/turnspitlaw08.KeyTurns", spec := "keyTurns", inPlace := ["slices.overlaps[turnspit/api.Key]"], unfollowed := true, recurses := true, plainKeys := false, apart := false, narrowed := true }
def KeyTurnsUptoSaid : Prop := keyTurnsUptoRow.holds Try.pinned (OpenSpec.upto keyTurnsSpec)

/-- 'turnspitlaw08.KeyOnce', WHERE WHAT IT READS IS OF BULK AT MOST 1048576: true; the input reads as it did. -/
def keyOnceUptoRow : OpenClaim := { program := "ytahnkldkbbkflaa", sum := "3e15e5281378cfad93ef91ca7481d12937236ec19a30ede162a8ac66b5b52f34", func := "turnspit/turnspitlaw08.KeyOnce", spec := "keyOnce", inPlace := ["slices.overlaps[turnspit/api.Key]"], unfollowed := true, recurses := true, plainKeys := false, apart := false, narrowed := true }
def KeyOnceUptoSaid : Prop := keyOnceUptoRow.holds Try.pinned (OpenSpec.upto keyOnceSpec)

end Rows
end Go.Proofs.Ytahnkldkbbkflaa
