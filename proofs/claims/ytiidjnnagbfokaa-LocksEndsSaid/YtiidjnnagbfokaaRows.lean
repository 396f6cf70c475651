/-
  No cell of these rows narrows 'for every input' (looked for: loops, veiled, ifaces, maps, wideKeys, modest, calm, conditions, laid).
  DERIVED. THE GIVEN ROWS OF THIS SEAT. 7 by the template 'for every input the law returns true; each argument reads behind the call as it read before'; 0 by the template 'total and deterministic' (their statements: YtiidjnnagbfokaaTotals.lean).
  GIVEN WITH THE SEED: the statements are not yours to turn. If you find one false, say at which input.
  Laid BY PROGRAM, IN A SANDBOX (cutbox-rows.mjs): the forced cells as the released guide's own fill.sh prints them over the translation de3d471fe2352cdf… (all of the seat's roots in one cut). By AI agents, Wed Nov 11 2026. No macro, syntax, notation, axiom, sorry.
-/
import Derived.Test.YtiidjnnagbfokaaChecked
import GoSem.Claim
import GoSem.ClaimJoined
import GoSem.ClaimMapViews
import Derived.JoinedTies
import Derived.KernelRfl
namespace Go.Proofs.Ytiidjnnagbfokaa
/- THE CELL 'sum', in the pinned program and in every row, IS THE sha256 OF THE DUMP (.gsa) THAT YtiidjnnagbfokaaProg.lean LOADS. Nothing in Lean hashes anything: it is a label: what it is worth is what the hold of that sum in a sandbox is worth. -/
noncomputable def Try.pinned : Pinned := { name := "ytiidjnnagbfokaa", sum := "de3d471fe2352cdf91dcae052f81c066801f22c2110c4db065d27fd0734bd2f2", checked := Try.checked }
namespace Rows
def none {H : Type} : Left H := { results := [], args := [] }

/-- 'turnspitlaw11.LocksTells': WHATEVER THE INPUT: true; the input reads as it did. -/
def locksTellsSpec : ChangeSpec := { name := "locksTells", fn := fun _ => fun
  | [d1, d2, d3] => { results := [.lit (.bool true)], args := [d1, d2, d3] }
  | _ => none }
def locksTellsRow : OpenClaim := { program := "ytiidjnnagbfokaa", sum := "de3d471fe2352cdf91dcae052f81c066801f22c2110c4db065d27fd0734bd2f2", func := "turnspit/turnspitlaw11.LocksTells", spec := "locksTells", apart := false }
def LocksTellsSaid : Prop := locksTellsRow.holds Try.pinned (OpenSpec.ofChange locksTellsSpec)

/-- ITS FALSE NEIGHBOUR: 'it returns false'. Refute it at one input. -/
def locksTellsWrong : ChangeSpec := { name := "locksTells", fn := fun _ => fun
  | [d1, d2, d3] => { results := [.lit (.bool false)], args := [d1, d2, d3] }
  | _ => none }
def LocksTellsWrongFalsely : Prop := locksTellsRow.holds Try.pinned (OpenSpec.ofChange locksTellsWrong)

/-- 'turnspitlaw11.LocksStuck': WHATEVER THE INPUT: true; the input reads as it did. -/
def locksStuckSpec : ChangeSpec := { name := "locksStuck", fn := fun _ => fun
  | [d] => { results := [.lit (.bool true)], args := [d] }
  | _ => none }
def locksStuckRow : OpenClaim := { program := "ytiidjnnagbfokaa", sum := "de3d471fe2352cdf91dcae052f81c066801f22c2110c4db065d27fd0734bd2f2", func := "turnspit/turnspitlaw11.LocksStuck", spec := "locksStuck", apart := false }
def LocksStuckSaid : Prop := locksStuckRow.holds Try.pinned (OpenSpec.ofChange locksStuckSpec)

/-- ITS FALSE NEIGHBOUR: 'it returns false'. Refute it at one input. -/
def locksStuckWrong : ChangeSpec := { name := "locksStuck", fn := fun _ => fun
  | [d] => { results := [.lit (.bool false)], args := [d] }
  | _ => none }
def LocksStuckWrongFalsely : Prop := locksStuckRow.holds Try.pinned (OpenSpec.ofChange locksStuckWrong)

/-- 'turnspitlaw11.LocksPlays': WHATEVER THE INPUT: true; the input reads as it did. -/
def locksPlaysSpec : ChangeSpec := { name := "locksPlays", fn := fun _ => fun
  | [d] => { results := [.lit (.bool true)], args := [d] }
  | _ => none }
def locksPlaysRow : OpenClaim := { program := "ytiidjnnagbfokaa", sum := "de3d471fe2352cdf91dcae052f81c066801f22c2110c4db065d27fd0734bd2f2", func := "turnspit/turnspitlaw11.LocksPlays", spec := "locksPlays", apart := false }
def LocksPlaysSaid : Prop := locksPlaysRow.holds Try.pinned (OpenSpec.ofChange locksPlaysSpec)

/-- ITS FALSE NEIGHBOUR: 'it returns false'. Refute it at one input. -/
def locksPlaysWrong : ChangeSpec := { name := "locksPlays", fn := fun _ => fun
  | [d] => { results := [.lit (.bool false)], args := [d] }
  | _ => none }
def LocksPlaysWrongFalsely : Prop := locksPlaysRow.holds Try.pinned (OpenSpec.ofChange locksPlaysWrong)

/-- 'turnspitlaw11.LocksFree': WHATEVER THE INPUT: true; the input reads as it did. -/
def locksFreeSpec : ChangeSpec := { name := "locksFree", fn := fun _ => fun
  | [d1, d2] => { results := [.lit (.bool true)], args := [d1, d2] }
  | _ => none }
def locksFreeRow : OpenClaim := { program := "ytiidjnnagbfokaa", sum := "de3d471fe2352cdf91dcae052f81c066801f22c2110c4db065d27fd0734bd2f2", func := "turnspit/turnspitlaw11.LocksFree", spec := "locksFree", apart := false }
def LocksFreeSaid : Prop := locksFreeRow.holds Try.pinned (OpenSpec.ofChange locksFreeSpec)

/-- ITS FALSE NEIGHBOUR: 'it returns false'. Refute it at one input. -/
def locksFreeWrong : ChangeSpec := { name := "locksFree", fn := fun _ => fun
  | [d1, d2] => { results := [.lit (.bool false)], args := [d1, d2] }
  | _ => none }
def LocksFreeWrongFalsely : Prop := locksFreeRow.holds Try.pinned (OpenSpec.ofChange locksFreeWrong)

/-- 'turnspitlaw11.LocksEnds': WHATEVER THE INPUT: true; the input reads as it did. -/
def locksEndsSpec : ChangeSpec := { name := "locksEnds", fn := fun _ => fun
  | [d1, d2] => { results := [.lit (.bool true)], args := [d1, d2] }
  | _ => none }
def locksEndsRow : OpenClaim := { program := "ytiidjnnagbfokaa", sum := "de3d471fe2352cdf91dcae052f81c066801f22c2110c4db065d27fd0734bd2f2", func := "turnspit/turnspitlaw11.LocksEnds", spec := "locksEnds", apart := false }
def LocksEndsSaid : Prop := locksEndsRow.holds Try.pinned (OpenSpec.ofChange locksEndsSpec)

/-- ITS FALSE NEIGHBOUR: 'it returns false'. Refute it at one input. -/
def locksEndsWrong : ChangeSpec := { name := "locksEnds", fn := fun _ => fun
  | [d1, d2] => { results := [.lit (.bool false)], args := [d1, d2] }
  | _ => none }
def LocksEndsWrongFalsely : Prop := locksEndsRow.holds Try.pinned (OpenSpec.ofChange locksEndsWrong)

/-- 'turnspitlaw11.LocksAlone': WHATEVER THE INPUT: true; the input reads as it did. -/
def locksAloneSpec : ChangeSpec := { name := "locksAlone", fn := fun _ => fun
  | [d1, d2, d3] => { results := [.lit (.bool true)], args := [d1, d2, d3] }
  | _ => none }
def locksAloneRow : OpenClaim := { program := "ytiidjnnagbfokaa", sum := "de3d471fe2352cdf91dcae052f81c066801f22c2110c4db065d27fd0734bd2f2", func := "turnspit/turnspitlaw11.LocksAlone", spec := "locksAlone", apart := false }
def LocksAloneSaid : Prop := locksAloneRow.holds Try.pinned (OpenSpec.ofChange locksAloneSpec)

/-- ITS FALSE NEIGHBOUR: 'it returns false'. Refute it at one input. -/
def locksAloneWrong : ChangeSpec := { name := "locksAlone", fn := fun _ => fun
  | [d1, d2, d3] => { results := [.lit (.bool false)], args := [d1, d2, d3] }
  | _ => none }
def LocksAloneWrongFalsely : Prop := locksAloneRow.holds Try.pinned (OpenSpec.ofChange locksAloneWrong)

/-- 'turnspitlaw11.LocksDead': WHATEVER THE INPUT: true; the input reads as it did. -/
def locksDeadSpec : ChangeSpec := { name := "locksDead", fn := fun _ => fun
  | [d1, d2, d3] => { results := [.lit (.bool true)], args := [d1, d2, d3] }
  | _ => none }
def locksDeadRow : OpenClaim := { program := "ytiidjnnagbfokaa", sum := "de3d471fe2352cdf91dcae052f81c066801f22c2110c4db065d27fd0734bd2f2", func := "turnspit/turnspitlaw11.LocksDead", spec := "locksDead", apart := false }
def LocksDeadSaid : Prop := locksDeadRow.holds Try.pinned (OpenSpec.ofChange locksDeadSpec)

/-- ITS FALSE NEIGHBOUR: 'it returns false'. Refute it at one input. -/
def locksDeadWrong : ChangeSpec := { name := "locksDead", fn := fun _ => fun
  | [d1, d2, d3] => { results := [.lit (.bool false)], args := [d1, d2, d3] }
  | _ => none }
def LocksDeadWrongFalsely : Prop := locksDeadRow.holds Try.pinned (OpenSpec.ofChange locksDeadWrong)

/- THE SECOND FORM. 'bulk': how many values and letters a reading holds, each counted each time it is reached (what is shared counts as often as it is met; a slice's spare places count too). A statement '..UptoSaid' is the law's where the arguments, and the package variables that the reading takes, are together of bulk at most 1048576: NARROWER than '..Said'. Prove '..Said' where nothing that the law and all that it calls make is longer than what came in: it says more and counts as full. Else prove '..UptoSaid'. A law counts once. -/
mutual
def uptoBulk {H : Type} : DataW H → Nat
  | .lit (.string bytes) => bytes.length + 1
  | .lit _ => 1
  | .nil => 1
  | .ptr d => uptoBulk d + 1
  | .slice elems spare => uptoBulkAll elems + uptoBulkAll spare + 1
  | .agg parts => uptoBulkAll parts + 1
  | .iface _ d => uptoBulk d + 1
  | .map entries => uptoBulkEntries entries + 1
  | .held _ => 1
def uptoBulkAll {H : Type} : List (DataW H) → Nat
  | [] => 0
  | d :: r => uptoBulk d + uptoBulkAll r
def uptoBulkEntries {H : Type} : List (Lit × DataW H) → Nat
  | [] => 0
  | x :: r => uptoBulkEntry x + uptoBulkEntries r
def uptoBulkEntry {H : Type} : Lit × DataW H → Nat
  | (.string bytes, d) => bytes.length + uptoBulk d + 1
  | (_, d) => uptoBulk d + 1
 end
def uptoSmall : (H : Type) → List (DataW H) → Bool := fun _ ds => decide (uptoBulkAll ds ≤ 1048576)
def OpenSpec.upto (s : _root_.Go.ChangeSpec) : _root_.Go.OpenSpec := { _root_.Go.OpenSpec.ofChange s with cond := some uptoSmall }

/-- 'turnspitlaw11.LocksTells', WHERE WHAT IT READS IS OF BULK AT MOST 1048576: true; the input reads as it did. -/
def locksTellsUptoRow : OpenClaim := { program := "ytiidjnnagbfokaa", sum := "de3d471fe2352cdf91dcae052f81c066801f22c2110c4db065d27fd0734bd2f2", func := "turnspit/turnspitlaw11.LocksTells", spec := "locksTells", apart := false, narrowed := true }
def LocksTellsUptoSaid : Prop := locksTellsUptoRow.holds Try.pinned (OpenSpec.upto locksTellsSpec)

/-- 'turnspitlaw11.LocksStuck', WHERE WHAT IT READS IS OF BULK AT MOST 1048576: true; the input reads as it did. -/
def locksStuckUptoRow : OpenClaim := { program := "ytiidjnnagbfokaa", sum := "de3d471fe2352cdf91dcae052f81c066801f22c2110c4db065d27fd0734bd2f2", func := "turnspit/turnspitlaw11.LocksStuck", spec := "locksStuck", apart := false, narrowed := true }
def LocksStuckUptoSaid : Prop := locksStuckUptoRow.holds Try.pinned (OpenSpec.upto locksStuckSpec)

/-- 'turnspitlaw11.LocksPlays', WHERE WHAT IT READS IS OF BULK AT MOST 1048576: true; the input reads as it did. -/
def locksPlaysUptoRow : OpenClaim := { program := "ytiidjnnagbfokaa", sum := "de3d471fe2352cdf91dcae052f81c066801f22c2110c4db065d27fd0734bd2f2", func := "turnspit/turnspitlaw11.LocksPlays", spec := "locksPlays", apart := false, narrowed := true }
def LocksPlaysUptoSaid : Prop := locksPlaysUptoRow.holds Try.pinned (OpenSpec.upto locksPlaysSpec)

/-- 'turnspitlaw11.LocksFree', WHERE WHAT IT READS IS OF BULK AT MOST 1048576: true; the input reads as it did. -/
def locksFreeUptoRow : OpenClaim := { program := "ytiidjnnagbfokaa", sum := "de3d471fe2352cdf91dcae052f81c066801f22c2110c4db065d27fd0734bd2f2", func := "turnspit/turnspitlaw11.LocksFree", spec := "locksFree", apart := false, narrowed := true }
def LocksFreeUptoSaid : Prop := locksFreeUptoRow.holds Try.pinned (OpenSpec.upto locksFreeSpec)

/-- 'turnspitlaw11.LocksEnds', WHERE WHAT IT READS IS OF BULK AT MOST 1048576: true; the input reads as it did. -/
def locksEndsUptoRow : OpenClaim := { program := "ytiidjnnagbfokaa", sum := "de3d471fe2352cdf91dcae052f81c066801f22c2110c4db065d27fd0734bd2f2", func := "turnspit/turnspitlaw11.LocksEnds", spec := "locksEnds", apart := false, narrowed := true }
def LocksEndsUptoSaid : Prop := locksEndsUptoRow.holds Try.pinned (OpenSpec.upto locksEndsSpec)

/-- 'turnspitlaw11.LocksAlone', WHERE WHAT IT READS IS OF BULK AT MOST 1048576: true; the input reads as it did. -/
def locksAloneUptoRow : OpenClaim := { program := "ytiidjnnagbfokaa", sum := "de3d471fe2352cdf91dcae052f81c066801f22c2110c4db065d27fd0734bd2f2", func := "turnspit/turnspitlaw11.LocksAlone", spec := "locksAlone", apart := false, narrowed := true }
def LocksAloneUptoSaid : Prop := locksAloneUptoRow.holds Try.pinned (OpenSpec.upto locksAloneSpec)

/-- 'turnspitlaw11.LocksDead', WHERE WHAT IT READS IS OF BULK AT MOST 1048576: true; the input reads as it did. -/
def locksDeadUptoRow : OpenClaim := { program := "ytiidjnnagbfokaa", sum := "de3d471fe2352cdf91dcae052f81c066801f22c2110c4db065d27fd0734bd2f2", func := "turnspit/turnspitlaw11.LocksDead", spec := "locksDead", apart := false, narrowed := true }
def LocksDeadUptoSaid : Prop := locksDeadUptoRow.holds Try.pinned (OpenSpec.upto locksDeadSpec)

end Rows
end Go.Proofs.Ytiidjnnagbfokaa
