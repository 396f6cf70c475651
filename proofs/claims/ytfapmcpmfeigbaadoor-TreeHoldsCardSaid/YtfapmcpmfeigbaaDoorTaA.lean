/- What turnspitlaw09.awake comes to: the trees of its calls, reckoned. No condition. Written by hand. -/
import Derived.Test.YtfapmcpmfeigbaaDoorTm13
import Derived.Test.YtfapmcpmfeigbaaDoorTm14
import Derived.Test.YtfapmcpmfeigbaaDoorWEqStruct
namespace Go.Proofs.YtfapmcpmfeigbaaDoor.Tm
open Go.RowKit Go Go.Proofs Go.Proofs.YtfapmcpmfeigbaaDoor Go.Proofs.YtfapmcpmfeigbaaDoor.Tr Go.Proofs.YtfapmcpmfeigbaaDoor.Tk Go.Proofs.YtfapmcpmfeigbaaDoorW.PrintWords Go.Proofs.YtfapmcpmfeigbaaDoorW.PrintLast Go.Proofs.YtfapmcpmfeigbaaDoorW.PrintMore
set_option linter.unusedVariables false
def ga (o : Option (St × Int)) : St := (o.getD (⟨[], 0⟩, 0)).1
def aA : St := ga (insA (newA 4).1 0 (9, 1))
def aB : St := ga (insA aA 0 (9, 2))
def aC : St := ga (insA aB 0 (9, 3))
def aD : St := ga (delF aC 0 2)
theorem a_a : insA (newA 4).1 0 (9, 1) = some (aA, 0) := by kernel_rfl
theorem a_b : insA aA 0 (9, 2) = some (aB, 0) := by kernel_rfl
theorem a_c : insA aB 0 (9, 3) = some (aC, 0) := by kernel_rfl
theorem a_d : delF aC 0 2 = some (aD, 0) := by kernel_rfl
theorem a_e : delF aD 0 2 = some (⟨[], 0⟩, 8) := by kernel_rfl
theorem a_f : insA aC 0 (1, 2) = some (⟨[], 0⟩, 1) := by kernel_rfl
theorem a_g : (walkA aC).getD 0 (0, 0) = (9, 1) ∧ (walkA aC).length = 3 := ⟨by kernel_rfl, by kernel_rfl⟩
theorem a_h : (walkA aD).length = 2 := by kernel_rfl
theorem a_i : heightA aC = 2 := by kernel_rfl
theorem a_j : rightA aD 0 = true := by kernel_rfl
theorem a_n : newA 4 = (⟨[emp, emp, emp, emp], -1⟩, 0) := by kernel_rfl
theorem a_cr : aC.rt = 2 ∧ aC.ns.length = 4 ∧ (gn aC 1).red = true ∧ (gn aC 3).red = true := ⟨by kernel_rfl, by kernel_rfl, by kernel_rfl, by kernel_rfl⟩
theorem a_dr : aD.rt = 3 ∧ aD.ns.length = 4 := ⟨by kernel_rfl, by kernel_rfl⟩
theorem a_al : aA.ns.length = 4 ∧ aB.ns.length = 4 := ⟨by kernel_rfl, by kernel_rfl⟩
theorem eqK (d : Nat) (w : World) (x0 y0 : Int) (x1 y1 : Int) :
    (Op.equalIn (d + 2) 27 (.agg #[.int .u64 x0, .int .i64 x1]) (.agg #[.int .u64 y0, .int .i64 y1])).run Tryd.prog w = .ok (x0 == y0 && (x1 == y1)) w := by
  refine eqA_of Tryd.underlying27 (by kernel_rfl) ?_
  refine eqf_cons (by rfl) (by go_simp; rfl) (by go_simp; rfl) (by go_simp) ?_
  exact eqf_last (by rfl) (by go_simp; rfl) (by go_simp; rfl) (by go_simp)
end Go.Proofs.YtfapmcpmfeigbaaDoor.Tm
