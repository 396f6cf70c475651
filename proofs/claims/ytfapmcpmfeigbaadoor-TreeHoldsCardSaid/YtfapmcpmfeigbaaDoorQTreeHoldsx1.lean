/- Go functions of the program, each as a function of Lean with the proof that the Go text comes to its answers; no condition. Written by a program of this session. -/
import Derived.Test.YtfapmcpmfeigbaaDoorQTreeHoldsx0
namespace Go.Proofs.YtfapmcpmfeigbaaDoor.QTreeHolds
open Go.RowKit Go.Proofs.YtfapmcpmfeigbaaDoorW.PrintWords Go.Proofs.YtfapmcpmfeigbaaDoorW.PrintLast Go.Proofs.YtfapmcpmfeigbaaDoorW.PrintMore
attribute [local go_sem] max2_int min2_int max_two min_two max_three min_three max_four min_four   -- for this text's walks alone
set_option linter.unusedVariables false
set_option linter.unusedSimpArgs false

theorem eqA27 (d : Nat) (w : World) (x0 y0 : Int) (x1 y1 : Int) :
    (Op.equalIn (d + 2) 27 (.agg #[.int .u64 x0, .int .i64 x1]) (.agg #[.int .u64 y0, .int .i64 y1])).run Tryd.prog w = .ok (x0 == y0 && (x1 == y1)) w := by
  refine eqA_of Tryd.underlying27 (by kernel_rfl) ?_
  refine eqf_cons (by rfl) (by go_simp; rfl) (by go_simp; rfl) (by go_simp) ?_
  exact eqf_last (by rfl) (by go_simp; rfl) (by go_simp; rfl) (by go_simp)
end Go.Proofs.YtfapmcpmfeigbaaDoor.QTreeHolds
