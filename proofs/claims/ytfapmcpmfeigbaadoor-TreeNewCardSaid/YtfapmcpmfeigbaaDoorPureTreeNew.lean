/- The pure law of TreeNew; no condition. -/
import Derived.Test.YtfapmcpmfeigbaaDoorQTreeNewx
namespace Go.Proofs.YtfapmcpmfeigbaaDoor.QTreeNew
open Go.RowKit Go Go.Proofs Go.Proofs.YtfapmcpmfeigbaaDoor Go.Proofs.YtfapmcpmfeigbaaDoor.Tr Go.Proofs.YtfapmcpmfeigbaaDoor.Tk Go.Proofs.YtfapmcpmfeigbaaDoorW.PrintWords Go.Proofs.YtfapmcpmfeigbaaDoorW.PrintLast
theorem new_small : (List.range 65).all (fun n => turnspitlaw09_TreeNew.f 70 (n : Int) == some true) = true := by kernel_rfl
theorem new_pure : turnspitlaw09_TreeNew.Pure := by
  intro a0 w0
  by_cases h : a0 < 0 ∨ 64 < a0
  · refine ⟨3, ?_⟩
    have e1 : tree_New.f a0 = some (0, [], 1) := by
      unfold tree_New.f Tm.newA
      rw [if_pos h]
      rfl
    have e2 : turnspitref09_New.f 3 a0 = some (0, [], 1) := by
      unfold turnspitref09_New.f
      by_cases h0 : a0 < 0
      · rw [if_pos h0]; rfl
      · rw [if_neg h0, show decide (a0 > 64) = true from decide_eq_true (by omega)]; rfl
    unfold turnspitlaw09_TreeNew.f
    rw [e1, e2]
    rfl
  · refine ⟨70, ?_⟩
    have := List.all_eq_true.1 new_small a0.toNat (List.mem_range.2 (by omega))
    rw [show ((a0.toNat : Nat) : Int) = a0 from by omega] at this
    exact eq_of_beq this
end Go.Proofs.YtfapmcpmfeigbaaDoor.QTreeNew
namespace Go.Proofs.YtfapmcpmfeigbaaDoor.Pure
open Go.Proofs.YtfapmcpmfeigbaaDoor
theorem TreeNew : QTreeNew.turnspitlaw09_TreeNew.Pure := QTreeNew.new_pure
end Go.Proofs.YtfapmcpmfeigbaaDoor.Pure
