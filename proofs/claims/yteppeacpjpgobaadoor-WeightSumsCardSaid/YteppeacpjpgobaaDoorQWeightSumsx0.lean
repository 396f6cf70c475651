/- Go functions of the program, each as a function of Lean with the proof that the Go text comes to its answers; no condition. Written by a program of this session. -/
import Derived.Test.YteppeacpjpgobaaDoorProg
import Derived.Below
import Derived.Deep.Draws
import Derived.Deep.AppendLies
import Derived.Maps.AppendAt
import Derived.OwnWalk
import Derived.Laws.BytesArg
import Derived.Laws.MakeOwn
import Derived.Laws.OwnMore
import Derived.Deep.OwnRows
import Derived.Tactics
import Derived.Lib.ConvBytes
import Derived.Laws.Slices
import Derived.WalkKit
import Derived.KernelRfl
import Derived.RowKit3
import Derived.Deep.LoopGhost
import Derived.Deep.QuietTactic
import Derived.BigQuiet
import Derived.WideLaws
import Derived.Deep.DeepCutAuto
import Derived.Deep.CutBlock
import Derived.Deep.RegionHeld3
import Derived.Laws.Rows
import Derived.Lib.AppendStr
import Derived.ArgAppend
import Derived.Laws.IdiomCopy
import Derived.OrdersHeld
import Derived.Laws.BitsLemmas
import Derived.RowKit
import Derived.Test.YteppeacpjpgobaaDoorDiv
import Derived.Test.YteppeacpjpgobaaDoorTable
import Derived.Test.YteppeacpjpgobaaDoorWWords
import Derived.Test.YteppeacpjpgobaaDoorWLast
import Derived.Test.YteppeacpjpgobaaDoorWTab
import Derived.Test.YteppeacpjpgobaaDoorWFour
import Derived.Test.YteppeacpjpgobaaDoorWQPut
import Derived.Test.YteppeacpjpgobaaDoorWApart
import Derived.Test.YteppeacpjpgobaaDoorWArr
import Derived.Test.YteppeacpjpgobaaDoorWZeros
import Derived.Test.YteppeacpjpgobaaDoorWFoot
import Derived.Test.YteppeacpjpgobaaDoorWKept
import Derived.Test.YteppeacpjpgobaaDoorWShare
import Derived.Test.YteppeacpjpgobaaDoorWN
import Derived.Test.YteppeacpjpgobaaDoorWFootNe
import Derived.Test.YteppeacpjpgobaaDoorWAt
import Derived.Test.YteppeacpjpgobaaDoorWEqStruct
import Derived.Test.YteppeacpjpgobaaDoorWRepsOne
import Derived.Test.YteppeacpjpgobaaDoorWInv
import Derived.Test.YteppeacpjpgobaaDoorWInvWords
import Derived.Test.YteppeacpjpgobaaDoorWGuard
import Derived.Test.YteppeacpjpgobaaDoorWNEv
import Derived.Test.YteppeacpjpgobaaDoorWMore
namespace Go.Proofs.YteppeacpjpgobaaDoor.QWeightSums
open Go.RowKit Go.Proofs.YteppeacpjpgobaaDoorW.PrintWords Go.Proofs.YteppeacpjpgobaaDoorW.PrintLast Go.Proofs.YteppeacpjpgobaaDoorW.PrintMore
attribute [local go_sem] max2_int min2_int max_two min_two max_three min_three max_four min_four   -- for this text's walks alone
set_option linter.unusedVariables false
set_option linter.unusedSimpArgs false



def errW : Option Int → Value
  | none => .nilIface
  | some c => .iface 0 (.int .i64 c)
theorem errW_none : errW none = .nilIface := rfl
theorem errW_some (c : Int) : errW (some c) = .iface 0 (.int .i64 c) := rfl

theorem info3 : (Tryd.prog.info? 3).map (fun i => (i.zero, i.size, i.bytes)) = some (some (.int .i64 0), 1, 8) := by kernel_rfl
-- the values' own types

end Go.Proofs.YteppeacpjpgobaaDoor.QWeightSums
