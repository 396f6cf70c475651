/-
  NARROWER THAN 'FOR EVERY INPUT', by the rows' own cells (each row's printed sentence says how): WeightTells: laid · WeightShares: laid · WeightFalls: laid · WeightBack: laid · WeightGrows: laid · WeightParts: laid · WeightSums: laid.
  DERIVED. THE GIVEN ROWS OF THIS SEAT. 7 by the template 'for every input the law returns true; each argument reads behind the call as it read before'; 0 by the template 'total and deterministic' (their statements: YteppeacpjpgobaaDoorTotals.lean).
  GIVEN WITH THE SEED: the statements are not yours to turn. If you find one false, say at which input.
  Laid BY PROGRAM, IN A SANDBOX (cutbox-rows.mjs): the forced cells as the released guide's own fill.sh prints them over the translation ac0e2e19fb3291eb… (all of the seat's roots in one cut). By AI agents, Wed Nov 11 2026. No macro, syntax, notation, axiom, sorry.
-/
import Derived.Test.YteppeacpjpgobaaDoorChecked
import GoSem.Claim
import GoSem.ClaimJoined
import GoSem.ClaimMapViews
import Derived.JoinedTies
import Derived.KernelRfl
namespace Go.Proofs.YteppeacpjpgobaaDoor
/- THE CELL 'sum', in the pinned program and in every row, IS THE sha256 OF THE DUMP (.gsa) THAT YteppeacpjpgobaaDoorProg.lean LOADS. Nothing in Lean hashes anything: it is a label: what it is worth is what the hold of that sum in a sandbox is worth. -/
noncomputable def Tryd.pinned : Pinned := { name := "yteppeacpjpgobaadoor", sum := "ac0e2e19fb3291eb0dc9782a9f7c3435edd600e4d6b628330e1dba3fae0c383f", checked := Tryd.checked }
namespace Rows
def none {H : Type} : Left H := { results := [], args := [] }

/- WHAT THE LISTED PACKAGE-LEVEL VARIABLES READ AS WHEN THE CALL BEGINS. Each datum BY PROGRAM (the guide's laid-datum.mjs) off the statement by which the dump's own 'gosem.cut.vars' lays the variable. In a bare row this is a premise. The card (YteppeacpjpgobaaDoorCards.lean) ties it to the program's text. -/
def laid_turnspit_weight_weights {H : Type} : DataW H := .agg [.lit (.int .i64 88761), .lit (.int .i64 71755), .lit (.int .i64 56483), .lit (.int .i64 46273), .lit (.int .i64 36291), .lit (.int .i64 29154), .lit (.int .i64 23254), .lit (.int .i64 18705), .lit (.int .i64 14949), .lit (.int .i64 11916), .lit (.int .i64 9548), .lit (.int .i64 7620), .lit (.int .i64 6100), .lit (.int .i64 4904), .lit (.int .i64 3906), .lit (.int .i64 3121), .lit (.int .i64 2501), .lit (.int .i64 1991), .lit (.int .i64 1586), .lit (.int .i64 1277), .lit (.int .i64 1024), .lit (.int .i64 820), .lit (.int .i64 655), .lit (.int .i64 526), .lit (.int .i64 423), .lit (.int .i64 335), .lit (.int .i64 272), .lit (.int .i64 215), .lit (.int .i64 172), .lit (.int .i64 137), .lit (.int .i64 110), .lit (.int .i64 87), .lit (.int .i64 70), .lit (.int .i64 56), .lit (.int .i64 45), .lit (.int .i64 36), .lit (.int .i64 29), .lit (.int .i64 23), .lit (.int .i64 18), .lit (.int .i64 15)]

/-- 'turnspitlaw02.WeightTells': WHATEVER THE INPUT: true; the input reads as it did. -/
def weightTellsSpec : ChangeSpec := { name := "weightTells", fn := fun _ => fun
  | [d1, d2, d3] => { results := [.lit (.bool true)], args := [d1, d2, d3] }
  | _ => none }
def weightTellsRow : OpenClaim := { program := "yteppeacpjpgobaadoor", sum := "ac0e2e19fb3291eb0dc9782a9f7c3435edd600e4d6b628330e1dba3fae0c383f", func := "turnspit/turnspitlaw02.WeightTells", spec := "weightTells", unfollowed := true, recurses := true, named := ["turnspit/weight.weights"], apart := false, laid := [("turnspit/weight.weights", laid_turnspit_weight_weights)] }
def WeightTellsSaid : Prop := weightTellsRow.holds Tryd.pinned (OpenSpec.ofChange weightTellsSpec)

/-- ITS FALSE NEIGHBOUR: 'it returns false'. Refute it at one input. -/
def weightTellsWrong : ChangeSpec := { name := "weightTells", fn := fun _ => fun
  | [d1, d2, d3] => { results := [.lit (.bool false)], args := [d1, d2, d3] }
  | _ => none }
def WeightTellsWrongFalsely : Prop := weightTellsRow.holds Tryd.pinned (OpenSpec.ofChange weightTellsWrong)

/-- 'turnspitlaw02.WeightShares': WHATEVER THE INPUT: true; the input reads as it did. -/
def weightSharesSpec : ChangeSpec := { name := "weightShares", fn := fun _ => fun
  | [d1, d2, d3] => { results := [.lit (.bool true)], args := [d1, d2, d3] }
  | _ => none }
def weightSharesRow : OpenClaim := { program := "yteppeacpjpgobaadoor", sum := "ac0e2e19fb3291eb0dc9782a9f7c3435edd600e4d6b628330e1dba3fae0c383f", func := "turnspit/turnspitlaw02.WeightShares", spec := "weightShares", unfollowed := true, recurses := true, named := ["turnspit/weight.weights"], apart := false, laid := [("turnspit/weight.weights", laid_turnspit_weight_weights)] }
def WeightSharesSaid : Prop := weightSharesRow.holds Tryd.pinned (OpenSpec.ofChange weightSharesSpec)

/-- ITS FALSE NEIGHBOUR: 'it returns false'. Refute it at one input. -/
def weightSharesWrong : ChangeSpec := { name := "weightShares", fn := fun _ => fun
  | [d1, d2, d3] => { results := [.lit (.bool false)], args := [d1, d2, d3] }
  | _ => none }
def WeightSharesWrongFalsely : Prop := weightSharesRow.holds Tryd.pinned (OpenSpec.ofChange weightSharesWrong)

/-- 'turnspitlaw02.WeightFalls': WHATEVER THE INPUT: true; the input reads as it did. -/
def weightFallsSpec : ChangeSpec := { name := "weightFalls", fn := fun _ => fun
  | [d] => { results := [.lit (.bool true)], args := [d] }
  | _ => none }
def weightFallsRow : OpenClaim := { program := "yteppeacpjpgobaadoor", sum := "ac0e2e19fb3291eb0dc9782a9f7c3435edd600e4d6b628330e1dba3fae0c383f", func := "turnspit/turnspitlaw02.WeightFalls", spec := "weightFalls", unfollowed := true, recurses := true, named := ["turnspit/weight.weights"], apart := false, laid := [("turnspit/weight.weights", laid_turnspit_weight_weights)] }
def WeightFallsSaid : Prop := weightFallsRow.holds Tryd.pinned (OpenSpec.ofChange weightFallsSpec)

/-- ITS FALSE NEIGHBOUR: 'it returns false'. Refute it at one input. -/
def weightFallsWrong : ChangeSpec := { name := "weightFalls", fn := fun _ => fun
  | [d] => { results := [.lit (.bool false)], args := [d] }
  | _ => none }
def WeightFallsWrongFalsely : Prop := weightFallsRow.holds Tryd.pinned (OpenSpec.ofChange weightFallsWrong)

/-- 'turnspitlaw02.WeightBack': WHATEVER THE INPUT: true; the input reads as it did. -/
def weightBackSpec : ChangeSpec := { name := "weightBack", fn := fun _ => fun
  | [d1, d2] => { results := [.lit (.bool true)], args := [d1, d2] }
  | _ => none }
def weightBackRow : OpenClaim := { program := "yteppeacpjpgobaadoor", sum := "ac0e2e19fb3291eb0dc9782a9f7c3435edd600e4d6b628330e1dba3fae0c383f", func := "turnspit/turnspitlaw02.WeightBack", spec := "weightBack", unfollowed := true, recurses := true, named := ["turnspit/weight.weights"], apart := false, laid := [("turnspit/weight.weights", laid_turnspit_weight_weights)] }
def WeightBackSaid : Prop := weightBackRow.holds Tryd.pinned (OpenSpec.ofChange weightBackSpec)

/-- ITS FALSE NEIGHBOUR: 'it returns false'. Refute it at one input. -/
def weightBackWrong : ChangeSpec := { name := "weightBack", fn := fun _ => fun
  | [d1, d2] => { results := [.lit (.bool false)], args := [d1, d2] }
  | _ => none }
def WeightBackWrongFalsely : Prop := weightBackRow.holds Tryd.pinned (OpenSpec.ofChange weightBackWrong)

/-- 'turnspitlaw02.WeightGrows': WHATEVER THE INPUT: true; the input reads as it did. -/
def weightGrowsSpec : ChangeSpec := { name := "weightGrows", fn := fun _ => fun
  | [d1, d2, d3] => { results := [.lit (.bool true)], args := [d1, d2, d3] }
  | _ => none }
def weightGrowsRow : OpenClaim := { program := "yteppeacpjpgobaadoor", sum := "ac0e2e19fb3291eb0dc9782a9f7c3435edd600e4d6b628330e1dba3fae0c383f", func := "turnspit/turnspitlaw02.WeightGrows", spec := "weightGrows", unfollowed := true, recurses := true, named := ["turnspit/weight.weights"], apart := false, laid := [("turnspit/weight.weights", laid_turnspit_weight_weights)] }
def WeightGrowsSaid : Prop := weightGrowsRow.holds Tryd.pinned (OpenSpec.ofChange weightGrowsSpec)

/-- ITS FALSE NEIGHBOUR: 'it returns false'. Refute it at one input. -/
def weightGrowsWrong : ChangeSpec := { name := "weightGrows", fn := fun _ => fun
  | [d1, d2, d3] => { results := [.lit (.bool false)], args := [d1, d2, d3] }
  | _ => none }
def WeightGrowsWrongFalsely : Prop := weightGrowsRow.holds Tryd.pinned (OpenSpec.ofChange weightGrowsWrong)

/-- 'turnspitlaw02.WeightParts': WHATEVER THE INPUT: true; the input reads as it did. -/
def weightPartsSpec : ChangeSpec := { name := "weightParts", fn := fun _ => fun
  | [d1, d2] => { results := [.lit (.bool true)], args := [d1, d2] }
  | _ => none }
def weightPartsRow : OpenClaim := { program := "yteppeacpjpgobaadoor", sum := "ac0e2e19fb3291eb0dc9782a9f7c3435edd600e4d6b628330e1dba3fae0c383f", func := "turnspit/turnspitlaw02.WeightParts", spec := "weightParts", unfollowed := true, recurses := true, named := ["turnspit/weight.weights"], apart := false, laid := [("turnspit/weight.weights", laid_turnspit_weight_weights)] }
def WeightPartsSaid : Prop := weightPartsRow.holds Tryd.pinned (OpenSpec.ofChange weightPartsSpec)

/-- ITS FALSE NEIGHBOUR: 'it returns false'. Refute it at one input. -/
def weightPartsWrong : ChangeSpec := { name := "weightParts", fn := fun _ => fun
  | [d1, d2] => { results := [.lit (.bool false)], args := [d1, d2] }
  | _ => none }
def WeightPartsWrongFalsely : Prop := weightPartsRow.holds Tryd.pinned (OpenSpec.ofChange weightPartsWrong)

/-- 'turnspitlaw02.WeightSums': WHATEVER THE INPUT: true; the input reads as it did. -/
def weightSumsSpec : ChangeSpec := { name := "weightSums", fn := fun _ => fun
  | [d1, d2] => { results := [.lit (.bool true)], args := [d1, d2] }
  | _ => none }
def weightSumsRow : OpenClaim := { program := "yteppeacpjpgobaadoor", sum := "ac0e2e19fb3291eb0dc9782a9f7c3435edd600e4d6b628330e1dba3fae0c383f", func := "turnspit/turnspitlaw02.WeightSums", spec := "weightSums", unfollowed := true, recurses := true, named := ["turnspit/weight.weights"], apart := false, laid := [("turnspit/weight.weights", laid_turnspit_weight_weights)] }
def WeightSumsSaid : Prop := weightSumsRow.holds Tryd.pinned (OpenSpec.ofChange weightSumsSpec)

/-- ITS FALSE NEIGHBOUR: 'it returns false'. Refute it at one input. -/
def weightSumsWrong : ChangeSpec := { name := "weightSums", fn := fun _ => fun
  | [d1, d2] => { results := [.lit (.bool false)], args := [d1, d2] }
  | _ => none }
def WeightSumsWrongFalsely : Prop := weightSumsRow.holds Tryd.pinned (OpenSpec.ofChange weightSumsWrong)

/- THE SECOND FORM. 'bulk': how many values and letters a reading holds, each counted each time it is reached (what is shared counts as often as it is met; a slice's spare places count too). A statement '..UptoSaid' is the law's where the arguments, and the package variables that the reading takes, are together of bulk at most 1048576: NARROWER than '..Said'. Prove '..Said' where nothing that the law and all that it calls make is longer than what came in: it says more and counts as full. Else prove '..UptoSaid'. A law counts once. -/
mutual
def uptoBulk {H : Type} : DataW H → Nat
  | .lit (.string bytes) => bytes.length + 1
  | .lit _ => 1
  | .nil => 1
  | .ptr d => uptoBulk d + 1
  | .slice elems spare => uptoBulkAll elems + uptoBulkAll spare + 1
  | .agg parts => uptoBulkAll parts + 1
  | .iface _ d => uptoBulk d + 1
  | .map entries => uptoBulkEntries entries + 1
  | .held _ => 1
def uptoBulkAll {H : Type} : List (DataW H) → Nat
  | [] => 0
  | d :: r => uptoBulk d + uptoBulkAll r
def uptoBulkEntries {H : Type} : List (Lit × DataW H) → Nat
  | [] => 0
  | x :: r => uptoBulkEntry x + uptoBulkEntries r
def uptoBulkEntry {H : Type} : Lit × DataW H → Nat
  | (.string bytes, d) => bytes.length + uptoBulk d + 1
  | (_, d) => uptoBulk d + 1
 end
def uptoSmall : (H : Type) → List (DataW H) → Bool := fun _ ds => decide (uptoBulkAll ds ≤ 1048576)
def OpenSpec.upto (s : _root_.Go.ChangeSpec) : _root_.Go.OpenSpec := { _root_.Go.OpenSpec.ofChange s with cond := some uptoSmall }

/-- 'turnspitlaw02.WeightTells', WHERE WHAT IT READS IS OF BULK AT MOST 1048576: true; the input reads as it did. -/
def weightTellsUptoRow : OpenClaim := { program := "yteppeacpjpgobaadoor", sum := "ac0e2e19fb3291eb0dc9782a9f7c3435edd600e4d6b628330e1dba3fae0c383f", func := "turnspit/turnspitlaw02.WeightTells", spec := "weightTells", unfollowed := true, recurses := true, named := ["turnspit/weight.weights"], apart := false, laid := [("turnspit/weight.weights", laid_turnspit_weight_weights)], narrowed := true }
def WeightTellsUptoSaid : Prop := weightTellsUptoRow.holds Tryd.pinned (OpenSpec.upto weightTellsSpec)

/-- 'turnspitlaw02.WeightShares', WHERE WHAT IT READS IS OF BULK AT MOST 1048576: true; the input reads as it did. -/
def weightSharesUptoRow : OpenClaim := { program := "yteppeacpjpgobaadoor", sum := "ac0e2e19fb3291eb0dc9782a9f7c3435edd600e4d6b628330e1dba3fae0c383f", func := "turnspit/turnspitlaw02.WeightShares", spec := "weightShares", unfollowed := true, recurses := true, named := ["turnspit/weight.weights"], apart := false, laid := [("turnspit/weight.weights", laid_turnspit_weight_weights)], narrowed := true }
def WeightSharesUptoSaid : Prop := weightSharesUptoRow.holds Tryd.pinned (OpenSpec.upto weightSharesSpec)

/-- 'turnspitlaw02.WeightFalls', WHERE WHAT IT READS IS OF BULK AT MOST 1048576: true; the input reads as it did. -/
def weightFallsUptoRow : OpenClaim := { program := "yteppeacpjpgobaadoor", sum := "ac0e2e19fb3291eb0dc9782a9f7c3435edd600e4d6b628330e1dba3fae0c383f", func := "turnspit/turnspitlaw02.WeightFalls", spec := "weightFalls", unfollowed := true, recurses := true, named := ["turnspit/weight.weights"], apart := false, laid := [("turnspit/weight.weights", laid_turnspit_weight_weights)], narrowed := true }
def WeightFallsUptoSaid : Prop := weightFallsUptoRow.holds Tryd.pinned (OpenSpec.upto weightFallsSpec)

/-- 'turnspitlaw02.WeightBack', WHERE WHAT IT READS IS OF BULK AT MOST 1048576: true; the input reads as it did. -/
def weightBackUptoRow : OpenClaim := { program := "yteppeacpjpgobaadoor", sum := "ac0e2e19fb3291eb0dc9782a9f7c3435edd600e4d6b628330e1dba3fae0c383f", func := "turnspit/turnspitlaw02.WeightBack", spec := "weightBack", unfollowed := true, recurses := true, named := ["turnspit/weight.weights"], apart := false, laid := [("turnspit/weight.weights", laid_turnspit_weight_weights)], narrowed := true }
def WeightBackUptoSaid : Prop := weightBackUptoRow.holds Tryd.pinned (OpenSpec.upto weightBackSpec)

/-- 'turnspitlaw02.WeightGrows', WHERE WHAT IT READS IS OF BULK AT MOST 1048576: true; the input reads as it did. -/
def weightGrowsUptoRow : OpenClaim := { program := "yteppeacpjpgobaadoor", sum := "ac0e2e19fb3291eb0dc9782a9f7c3435edd600e4d6b628330e1dba3fae0c383f", func := "turnspit/turnspitlaw02.WeightGrows", spec := "weightGrows", unfollowed := true, recurses := true, named := ["turnspit/weight.weights"], apart := false, laid := [("turnspit/weight.weights", laid_turnspit_weight_weights)], narrowed := true }
def WeightGrowsUptoSaid : Prop := weightGrowsUptoRow.holds Tryd.pinned (OpenSpec.upto weightGrowsSpec)

/-- 'turnspitlaw02.WeightParts', WHERE WHAT IT READS IS OF BULK AT MOST 1048576: true; the input reads as it did. -/
def weightPartsUptoRow : OpenClaim := { program := "yteppeacpjpgobaadoor", sum := "ac0e2e19fb3291eb0dc9782a9f7c3435edd600e4d6b628330e1dba3fae0c383f", func := "turnspit/turnspitlaw02.WeightParts", spec := "weightParts", unfollowed := true, recurses := true, named := ["turnspit/weight.weights"], apart := false, laid := [("turnspit/weight.weights", laid_turnspit_weight_weights)], narrowed := true }
def WeightPartsUptoSaid : Prop := weightPartsUptoRow.holds Tryd.pinned (OpenSpec.upto weightPartsSpec)

/-- 'turnspitlaw02.WeightSums', WHERE WHAT IT READS IS OF BULK AT MOST 1048576: true; the input reads as it did. -/
def weightSumsUptoRow : OpenClaim := { program := "yteppeacpjpgobaadoor", sum := "ac0e2e19fb3291eb0dc9782a9f7c3435edd600e4d6b628330e1dba3fae0c383f", func := "turnspit/turnspitlaw02.WeightSums", spec := "weightSums", unfollowed := true, recurses := true, named := ["turnspit/weight.weights"], apart := false, laid := [("turnspit/weight.weights", laid_turnspit_weight_weights)], narrowed := true }
def WeightSumsUptoSaid : Prop := weightSumsUptoRow.holds Tryd.pinned (OpenSpec.upto weightSumsSpec)

end Rows
end Go.Proofs.YteppeacpjpgobaaDoor
