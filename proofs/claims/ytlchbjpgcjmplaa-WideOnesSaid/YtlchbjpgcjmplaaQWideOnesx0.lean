/- Go functions of the program, each as a function of Lean with the proof that the Go text comes to its answers; no condition. Written by a program of this session. -/
import Derived.Test.YtlchbjpgcjmplaaProg
import Derived.Below
import Derived.Deep.Draws
import Derived.Deep.AppendLies
import Derived.Maps.AppendAt
import Derived.OwnWalk
import Derived.Laws.BytesArg
import Derived.Laws.MakeOwn
import Derived.Laws.OwnMore
import Derived.Deep.OwnRows
import Derived.Tactics
import Derived.Lib.ConvBytes
import Derived.Laws.Slices
import Derived.WalkKit
import Derived.KernelRfl
import Derived.RowKit3
import Derived.Deep.LoopGhost
import Derived.Deep.QuietTactic
import Derived.BigQuiet
import Derived.WideLaws
import Derived.Deep.DeepCutAuto
import Derived.Deep.CutBlock
import Derived.Deep.RegionHeld3
import Derived.Laws.Rows
import Derived.Lib.AppendStr
import Derived.ArgAppend
import Derived.Laws.IdiomCopy
import Derived.OrdersHeld
import Derived.Laws.BitsLemmas
import Derived.RowKit
import Derived.Test.YtlchbjpgcjmplaaDiv
import Derived.Test.YtlchbjpgcjmplaaWWords
import Derived.Test.YtlchbjpgcjmplaaWLast
import Derived.Test.YtlchbjpgcjmplaaWTab
import Derived.Test.YtlchbjpgcjmplaaWFour
import Derived.Test.YtlchbjpgcjmplaaWQPut
import Derived.Test.YtlchbjpgcjmplaaWApart
import Derived.Test.YtlchbjpgcjmplaaWArr
import Derived.Test.YtlchbjpgcjmplaaWZeros
import Derived.Test.YtlchbjpgcjmplaaWFoot
import Derived.Test.YtlchbjpgcjmplaaWKept
import Derived.Test.YtlchbjpgcjmplaaWShare
import Derived.Test.YtlchbjpgcjmplaaWN
import Derived.Test.YtlchbjpgcjmplaaWFootNe
import Derived.Test.YtlchbjpgcjmplaaWAt
import Derived.Test.YtlchbjpgcjmplaaWEqStruct
import Derived.Test.YtlchbjpgcjmplaaWRepsOne
import Derived.Test.YtlchbjpgcjmplaaWInv
import Derived.Test.YtlchbjpgcjmplaaWInvWords
import Derived.Test.YtlchbjpgcjmplaaWGuard
import Derived.Test.YtlchbjpgcjmplaaWNEv
import Derived.Test.YtlchbjpgcjmplaaWMore
namespace Go.Proofs.Ytlchbjpgcjmplaa.QWideOnes
open Go.RowKit Go.Proofs.YtlchbjpgcjmplaaW.PrintWords Go.Proofs.YtlchbjpgcjmplaaW.PrintLast Go.Proofs.YtlchbjpgcjmplaaW.PrintMore
attribute [local go_sem] max2_int min2_int max_two min_two max_three min_three max_four min_four   -- for this text's walks alone
set_option linter.unusedVariables false
set_option linter.unusedSimpArgs false



def errW : Option Int → Value
  | none => .nilIface
  | some c => .iface 0 (.int .i64 c)
theorem errW_none : errW none = .nilIface := rfl
theorem errW_some (c : Int) : errW (some c) = .iface 0 (.int .i64 c) := rfl

-- the values' own types

end Go.Proofs.Ytlchbjpgcjmplaa.QWideOnes
