-- Printed by a program of this session out of Lean's own print of the program; contracts proved by hand stand in it, too.
import Derived.Test.YtigakimfoanonaaProg
import Derived.Below
import Derived.Deep.Draws
import Derived.Deep.AppendLies
import Derived.Maps.AppendAt
import Derived.OwnWalk
import Derived.Laws.BytesArg
import Derived.Laws.MakeOwn
import Derived.Laws.OwnMore
import Derived.Deep.OwnRows
import Derived.Tactics
import Derived.Lib.ConvBytes
import Derived.Laws.Slices
import Derived.WalkKit
import Derived.KernelRfl
import Derived.RowKit3
import Derived.Deep.LoopGhost
import Derived.Deep.QuietTactic
import Derived.BigQuiet
import Derived.WideLaws
import Derived.Deep.DeepCutAuto
import Derived.Deep.CutBlock
import Derived.Deep.RegionHeld3
import Derived.Laws.Rows
import Derived.Lib.AppendStr
import Derived.ArgAppend
import Derived.Laws.IdiomCopy
import Derived.OrdersHeld
import Derived.Laws.BitsLemmas
import Derived.RowKit
import Derived.Test.YtigakimfoanonaaWWords
import Derived.Test.YtigakimfoanonaaWLast
import Derived.Test.YtigakimfoanonaaWTab
import Derived.Test.YtigakimfoanonaaWFour
import Derived.Test.YtigakimfoanonaaWQPut
import Derived.Test.YtigakimfoanonaaWApart
import Derived.Test.YtigakimfoanonaaWArr
import Derived.Test.YtigakimfoanonaaWZeros
import Derived.Test.YtigakimfoanonaaWFoot
import Derived.Test.YtigakimfoanonaaWKept
import Derived.Test.YtigakimfoanonaaWShare
import Derived.Test.YtigakimfoanonaaWN
import Derived.Test.YtigakimfoanonaaWFootNe
import Derived.Test.YtigakimfoanonaaWAt
import Derived.Test.YtigakimfoanonaaWEqStruct
import Derived.Test.YtigakimfoanonaaWRepsOne
import Derived.Test.YtigakimfoanonaaWInv
import Derived.Test.YtigakimfoanonaaWInvWords
import Derived.Test.YtigakimfoanonaaWGuard
import Derived.Test.YtigakimfoanonaaWNEv
import Derived.Test.YtigakimfoanonaaWMore
namespace Go.Proofs.Ytigakimfoanonaa.QTurnOne
open Go.RowKit Go.Proofs.YtigakimfoanonaaW.PrintWords Go.Proofs.YtigakimfoanonaaW.PrintLast Go.Proofs.YtigakimfoanonaaW.PrintMore
attribute [local go_sem] max2_int min2_int max_two min_two max_three min_three max_four min_four   -- for this text's walks alone
set_option linter.unusedVariables false
set_option linter.unusedSimpArgs false



def errW : Option Int → Value
  | none => .nilIface
  | some c => .iface 0 (.int .i64 c)
theorem errW_none : errW none = .nilIface := rfl
theorem errW_some (c : Int) : errW (some c) = .iface 0 (.int .i64 c) := rfl

-- the values' own types

end Go.Proofs.Ytigakimfoanonaa.QTurnOne
