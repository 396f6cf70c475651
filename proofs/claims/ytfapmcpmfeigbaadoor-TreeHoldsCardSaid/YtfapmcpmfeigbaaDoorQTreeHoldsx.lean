/- Go functions of the program, each as a function of Lean with the proof that the Go text comes to its answers; no condition. Written by a program of this session. -/
import Derived.Test.YtfapmcpmfeigbaaDoorQTreeHoldsx0
import Derived.Test.YtfapmcpmfeigbaaDoorQTreeHoldsx1
import Derived.Test.YtfapmcpmfeigbaaDoorQTreeHoldsx2
import Derived.Test.YtfapmcpmfeigbaaDoorQTreeHoldsx3
import Derived.Test.YtfapmcpmfeigbaaDoorQTreeHoldsx4
import Derived.Test.YtfapmcpmfeigbaaDoorQTreeHoldsx5
import Derived.Test.YtfapmcpmfeigbaaDoorQTreeHoldsx6
import Derived.Test.YtfapmcpmfeigbaaDoorQTreeHoldsx7
namespace Go.Proofs.YtfapmcpmfeigbaaDoor.QTreeHolds
open Go.RowKit Go.Proofs.YtfapmcpmfeigbaaDoorW.PrintWords Go.Proofs.YtfapmcpmfeigbaaDoorW.PrintLast Go.Proofs.YtfapmcpmfeigbaaDoorW.PrintMore
attribute [local go_sem] max2_int min2_int max_two min_two max_three min_three max_four min_four   -- for this text's walks alone
set_option linter.unusedVariables false
set_option linter.unusedSimpArgs false

end Go.Proofs.YtfapmcpmfeigbaaDoor.QTreeHolds
