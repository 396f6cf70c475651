/-
  No cell of these rows narrows 'for every input' (looked for: loops, veiled, ifaces, maps, wideKeys, modest, calm, conditions, laid).
  DERIVED. THE GIVEN ROWS OF THIS SEAT. 7 by the template 'for every input the law returns true; each argument reads behind the call as it read before'; 0 by the template 'total and deterministic' (their statements: YtlchbjpgcjmplaaTotals.lean).
  GIVEN WITH THE SEED: the statements are not yours to turn. If you find one false, say at which input.
  Laid BY PROGRAM, IN A SANDBOX (cutbox-rows.mjs): the forced cells as the released guide's own fill.sh prints them over the translation 27b7d784d041c2cd… (all of the seat's roots in one cut). By AI agents, Wed Nov 11 2026. No macro, syntax, notation, axiom, sorry.
-/
import Derived.Test.YtlchbjpgcjmplaaChecked
import GoSem.Claim
import GoSem.ClaimJoined
import GoSem.ClaimMapViews
import Derived.JoinedTies
import Derived.KernelRfl
namespace Go.Proofs.Ytlchbjpgcjmplaa
/- THE CELL 'sum', in the pinned program and in every row, IS THE sha256 OF THE DUMP (.gsa) THAT YtlchbjpgcjmplaaProg.lean LOADS. Nothing in Lean hashes anything: it is a label: what it is worth is what the hold of that sum in a sandbox is worth. -/
noncomputable def Try.pinned : Pinned := { name := "ytlchbjpgcjmplaa", sum := "27b7d784d041c2cd806d67b22a56c8077224e6829da0f62d2f52a88540581c38", checked := Try.checked }
namespace Rows
def none {H : Type} : Left H := { results := [], args := [] }

/-- 'turnspitlaw01.WideTells': WHATEVER THE INPUT: true; the input reads as it did. -/
def wideTellsSpec : ChangeSpec := { name := "wideTells", fn := fun _ => fun
  | [d1, d2, d3] => { results := [.lit (.bool true)], args := [d1, d2, d3] }
  | _ => none }
def wideTellsRow : OpenClaim := { program := "ytlchbjpgcjmplaa", sum := "27b7d784d041c2cd806d67b22a56c8077224e6829da0f62d2f52a88540581c38", func := "turnspit/turnspitlaw01.WideTells", spec := "wideTells", unfollowed := true, recurses := true, apart := false }
def WideTellsSaid : Prop := wideTellsRow.holds Try.pinned (OpenSpec.ofChange wideTellsSpec)

/-- ITS FALSE NEIGHBOUR: 'it returns false'. Refute it at one input. -/
def wideTellsWrong : ChangeSpec := { name := "wideTells", fn := fun _ => fun
  | [d1, d2, d3] => { results := [.lit (.bool false)], args := [d1, d2, d3] }
  | _ => none }
def WideTellsWrongFalsely : Prop := wideTellsRow.holds Try.pinned (OpenSpec.ofChange wideTellsWrong)

/-- 'turnspitlaw01.WideBack': WHATEVER THE INPUT: true; the input reads as it did. -/
def wideBackSpec : ChangeSpec := { name := "wideBack", fn := fun _ => fun
  | [d1, d2, d3] => { results := [.lit (.bool true)], args := [d1, d2, d3] }
  | _ => none }
def wideBackRow : OpenClaim := { program := "ytlchbjpgcjmplaa", sum := "27b7d784d041c2cd806d67b22a56c8077224e6829da0f62d2f52a88540581c38", func := "turnspit/turnspitlaw01.WideBack", spec := "wideBack", unfollowed := true, recurses := true, apart := false }
def WideBackSaid : Prop := wideBackRow.holds Try.pinned (OpenSpec.ofChange wideBackSpec)

/-- ITS FALSE NEIGHBOUR: 'it returns false'. Refute it at one input. -/
def wideBackWrong : ChangeSpec := { name := "wideBack", fn := fun _ => fun
  | [d1, d2, d3] => { results := [.lit (.bool false)], args := [d1, d2, d3] }
  | _ => none }
def WideBackWrongFalsely : Prop := wideBackRow.holds Try.pinned (OpenSpec.ofChange wideBackWrong)

/-- 'turnspitlaw01.WideTurns': WHATEVER THE INPUT: true; the input reads as it did. -/
def wideTurnsSpec : ChangeSpec := { name := "wideTurns", fn := fun _ => fun
  | [d1, d2, d3] => { results := [.lit (.bool true)], args := [d1, d2, d3] }
  | _ => none }
def wideTurnsRow : OpenClaim := { program := "ytlchbjpgcjmplaa", sum := "27b7d784d041c2cd806d67b22a56c8077224e6829da0f62d2f52a88540581c38", func := "turnspit/turnspitlaw01.WideTurns", spec := "wideTurns", unfollowed := true, recurses := true, apart := false }
def WideTurnsSaid : Prop := wideTurnsRow.holds Try.pinned (OpenSpec.ofChange wideTurnsSpec)

/-- ITS FALSE NEIGHBOUR: 'it returns false'. Refute it at one input. -/
def wideTurnsWrong : ChangeSpec := { name := "wideTurns", fn := fun _ => fun
  | [d1, d2, d3] => { results := [.lit (.bool false)], args := [d1, d2, d3] }
  | _ => none }
def WideTurnsWrongFalsely : Prop := wideTurnsRow.holds Try.pinned (OpenSpec.ofChange wideTurnsWrong)

/-- 'turnspitlaw01.WideBounds': WHATEVER THE INPUT: true; the input reads as it did. -/
def wideBoundsSpec : ChangeSpec := { name := "wideBounds", fn := fun _ => fun
  | [d1, d2, d3] => { results := [.lit (.bool true)], args := [d1, d2, d3] }
  | _ => none }
def wideBoundsRow : OpenClaim := { program := "ytlchbjpgcjmplaa", sum := "27b7d784d041c2cd806d67b22a56c8077224e6829da0f62d2f52a88540581c38", func := "turnspit/turnspitlaw01.WideBounds", spec := "wideBounds", unfollowed := true, recurses := true, apart := false }
def WideBoundsSaid : Prop := wideBoundsRow.holds Try.pinned (OpenSpec.ofChange wideBoundsSpec)

/-- ITS FALSE NEIGHBOUR: 'it returns false'. Refute it at one input. -/
def wideBoundsWrong : ChangeSpec := { name := "wideBounds", fn := fun _ => fun
  | [d1, d2, d3] => { results := [.lit (.bool false)], args := [d1, d2, d3] }
  | _ => none }
def WideBoundsWrongFalsely : Prop := wideBoundsRow.holds Try.pinned (OpenSpec.ofChange wideBoundsWrong)

/-- 'turnspitlaw01.WideOnes': WHATEVER THE INPUT: true; the input reads as it did. -/
def wideOnesSpec : ChangeSpec := { name := "wideOnes", fn := fun _ => fun
  | [d1, d2] => { results := [.lit (.bool true)], args := [d1, d2] }
  | _ => none }
def wideOnesRow : OpenClaim := { program := "ytlchbjpgcjmplaa", sum := "27b7d784d041c2cd806d67b22a56c8077224e6829da0f62d2f52a88540581c38", func := "turnspit/turnspitlaw01.WideOnes", spec := "wideOnes", unfollowed := true, recurses := true, apart := false }
def WideOnesSaid : Prop := wideOnesRow.holds Try.pinned (OpenSpec.ofChange wideOnesSpec)

/-- ITS FALSE NEIGHBOUR: 'it returns false'. Refute it at one input. -/
def wideOnesWrong : ChangeSpec := { name := "wideOnes", fn := fun _ => fun
  | [d1, d2] => { results := [.lit (.bool false)], args := [d1, d2] }
  | _ => none }
def WideOnesWrongFalsely : Prop := wideOnesRow.holds Try.pinned (OpenSpec.ofChange wideOnesWrong)

/-- 'turnspitlaw01.WideScales': WHATEVER THE INPUT: true; the input reads as it did. -/
def wideScalesSpec : ChangeSpec := { name := "wideScales", fn := fun _ => fun
  | [d1, d2, d3] => { results := [.lit (.bool true)], args := [d1, d2, d3] }
  | _ => none }
def wideScalesRow : OpenClaim := { program := "ytlchbjpgcjmplaa", sum := "27b7d784d041c2cd806d67b22a56c8077224e6829da0f62d2f52a88540581c38", func := "turnspit/turnspitlaw01.WideScales", spec := "wideScales", unfollowed := true, recurses := true, apart := false }
def WideScalesSaid : Prop := wideScalesRow.holds Try.pinned (OpenSpec.ofChange wideScalesSpec)

/-- ITS FALSE NEIGHBOUR: 'it returns false'. Refute it at one input. -/
def wideScalesWrong : ChangeSpec := { name := "wideScales", fn := fun _ => fun
  | [d1, d2, d3] => { results := [.lit (.bool false)], args := [d1, d2, d3] }
  | _ => none }
def WideScalesWrongFalsely : Prop := wideScalesRow.holds Try.pinned (OpenSpec.ofChange wideScalesWrong)

/-- 'turnspitlaw01.WideSums': WHATEVER THE INPUT: true; the input reads as it did. -/
def wideSumsSpec : ChangeSpec := { name := "wideSums", fn := fun _ => fun
  | [d1, d2, d3] => { results := [.lit (.bool true)], args := [d1, d2, d3] }
  | _ => none }
def wideSumsRow : OpenClaim := { program := "ytlchbjpgcjmplaa", sum := "27b7d784d041c2cd806d67b22a56c8077224e6829da0f62d2f52a88540581c38", func := "turnspit/turnspitlaw01.WideSums", spec := "wideSums", unfollowed := true, recurses := true, apart := false }
def WideSumsSaid : Prop := wideSumsRow.holds Try.pinned (OpenSpec.ofChange wideSumsSpec)

/-- ITS FALSE NEIGHBOUR: 'it returns false'. Refute it at one input. -/
def wideSumsWrong : ChangeSpec := { name := "wideSums", fn := fun _ => fun
  | [d1, d2, d3] => { results := [.lit (.bool false)], args := [d1, d2, d3] }
  | _ => none }
def WideSumsWrongFalsely : Prop := wideSumsRow.holds Try.pinned (OpenSpec.ofChange wideSumsWrong)

/- THE SECOND FORM. 'bulk': how many values and letters a reading holds, each counted each time it is reached (what is shared counts as often as it is met; a slice's spare places count too). A statement '..UptoSaid' is the law's where the arguments, and the package variables that the reading takes, are together of bulk at most 1048576: NARROWER than '..Said'. Prove '..Said' where nothing that the law and all that it calls make is longer than what came in: it says more and counts as full. Else prove '..UptoSaid'. A law counts once. -/
mutual
def uptoBulk {H : Type} : DataW H → Nat
  | .lit (.string bytes) => bytes.length + 1
  | .lit _ => 1
  | .nil => 1
  | .ptr d => uptoBulk d + 1
  | .slice elems spare => uptoBulkAll elems + uptoBulkAll spare + 1
  | .agg parts => uptoBulkAll parts + 1
  | .iface _ d => uptoBulk d + 1
  | .map entries => uptoBulkEntries entries + 1
  | .held _ => 1
def uptoBulkAll {H : Type} : List (DataW H) → Nat
  | [] => 0
  | d :: r => uptoBulk d + uptoBulkAll r
def uptoBulkEntries {H : Type} : List (Lit × DataW H) → Nat
  | [] => 0
  | x :: r => uptoBulkEntry x + uptoBulkEntries r
def uptoBulkEntry {H : Type} : Lit × DataW H → Nat
  | (.string bytes, d) => bytes.length + uptoBulk d + 1
  | (_, d) => uptoBulk d + 1
 end
def uptoSmall : (H : Type) → List (DataW H) → Bool := fun _ ds => decide (uptoBulkAll ds ≤ 1048576)
def OpenSpec.upto (s : _root_.Go.ChangeSpec) : _root_.Go.OpenSpec := { _root_.Go.OpenSpec.ofChange s with cond := some uptoSmall }

/-- 'turnspitlaw01.WideTells', WHERE WHAT IT READS IS OF BULK AT MOST 1048576: true; the input reads as it did. -/
def wideTellsUptoRow : OpenClaim := { program := "ytlchbjpgcjmplaa", sum := "27b7d784d041c2cd806d67b22a56c8077224e6829da0f62d2f52a88540581c38", func := "turnspit/turnspitlaw01.WideTells", spec := "wideTells", unfollowed := true, recurses := true, apart := false, narrowed := true }
def WideTellsUptoSaid : Prop := wideTellsUptoRow.holds Try.pinned (OpenSpec.upto wideTellsSpec)

/-- 'turnspitlaw01.WideBack', WHERE WHAT IT READS IS OF BULK AT MOST 1048576: true; the input reads as it did. -/
def wideBackUptoRow : OpenClaim := { program := "ytlchbjpgcjmplaa", sum := "27b7d784d041c2cd806d67b22a56c8077224e6829da0f62d2f52a88540581c38", func := "turnspit/turnspitlaw01.WideBack", spec := "wideBack", unfollowed := true, recurses := true, apart := false, narrowed := true }
def WideBackUptoSaid : Prop := wideBackUptoRow.holds Try.pinned (OpenSpec.upto wideBackSpec)

/-- 'turnspitlaw01.WideTurns', WHERE WHAT IT READS IS OF BULK AT MOST 1048576: true; the input reads as it did. -/
def wideTurnsUptoRow : OpenClaim := { program := "ytlchbjpgcjmplaa", sum := "27b7d784d041c2cd806d67b22a56c8077224e6829da0f62d2f52a88540581c38", func := "turnspit/turnspitlaw01.WideTurns", spec := "wideTurns", unfollowed := true, recurses := true, apart := false, narrowed := true }
def WideTurnsUptoSaid : Prop := wideTurnsUptoRow.holds Try.pinned (OpenSpec.upto wideTurnsSpec)

/-- 'turnspitlaw01.WideBounds', WHERE WHAT IT READS IS OF BULK AT MOST 1048576: true; the input reads as it did. -/
def wideBoundsUptoRow : OpenClaim := { program := "ytlchbjpgcjmplaa", sum := "27b7d784d041c2cd806d67b22a56c8077224e6829da0f62d2f52a88540581c38", func := "turnspit/turnspitlaw01.WideBounds", spec := "wideBounds", unfollowed := true, recurses := true, apart := false, narrowed := true }
def WideBoundsUptoSaid : Prop := wideBoundsUptoRow.holds Try.pinned (OpenSpec.upto wideBoundsSpec)

/-- 'turnspitlaw01.WideOnes', WHERE WHAT IT READS IS OF BULK AT MOST 1048576: true; the input reads as it did. -/
def wideOnesUptoRow : OpenClaim := { program := "ytlchbjpgcjmplaa", sum := "27b7d784d041c2cd806d67b22a56c8077224e6829da0f62d2f52a88540581c38", func := "turnspit/turnspitlaw01.WideOnes", spec := "wideOnes", unfollowed := true, recurses := true, apart := false, narrowed := true }
def WideOnesUptoSaid : Prop := wideOnesUptoRow.holds Try.pinned (OpenSpec.upto wideOnesSpec)

/-- 'turnspitlaw01.WideScales', WHERE WHAT IT READS IS OF BULK AT MOST 1048576: true; the input reads as it did. -/
def wideScalesUptoRow : OpenClaim := { program := "ytlchbjpgcjmplaa", sum := "27b7d784d041c2cd806d67b22a56c8077224e6829da0f62d2f52a88540581c38", func := "turnspit/turnspitlaw01.WideScales", spec := "wideScales", unfollowed := true, recurses := true, apart := false, narrowed := true }
def WideScalesUptoSaid : Prop := wideScalesUptoRow.holds Try.pinned (OpenSpec.upto wideScalesSpec)

/-- 'turnspitlaw01.WideSums', WHERE WHAT IT READS IS OF BULK AT MOST 1048576: true; the input reads as it did. -/
def wideSumsUptoRow : OpenClaim := { program := "ytlchbjpgcjmplaa", sum := "27b7d784d041c2cd806d67b22a56c8077224e6829da0f62d2f52a88540581c38", func := "turnspit/turnspitlaw01.WideSums", spec := "wideSums", unfollowed := true, recurses := true, apart := false, narrowed := true }
def WideSumsUptoSaid : Prop := wideSumsUptoRow.holds Try.pinned (OpenSpec.upto wideSumsSpec)

end Rows
end Go.Proofs.Ytlchbjpgcjmplaa
