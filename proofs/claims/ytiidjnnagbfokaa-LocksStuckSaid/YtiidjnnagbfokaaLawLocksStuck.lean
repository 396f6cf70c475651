/- The law LocksStuck answers true at every input that its row lets in, and leaves its arguments as they were; no condition. -/
import Derived.Test.YtiidjnnagbfokaaRows
import Derived.Test.YtiidjnnagbfokaaQLocksStuckx6
import Derived.Test.YtiidjnnagbfokaaPureLocksStuck
import Derived.Test.YtiidjnnagbfokaaOpen
import Derived.WalkKit
import Derived.ProofKit
import Derived.OpenShut
import Derived.ShutString
import Derived.ChangeOld
import Derived.Below
import Derived.Carry
import Derived.SizedLaws
namespace Go.Proofs.Ytiidjnnagbfokaa.locksStuck
open Go.ChangeShapes Go.WideShapes Go.ChangeAt Go.RowKit
open Go.ChangeMaps (open_string shut_string)
set_option linter.unusedVariables false
theorem own : ownKnob Try.prog.godebug = none := by kernel_rfl
theorem laidOut : laidOutB Try.prog = true := by kernel_rfl
set_option maxRecDepth 100000 in
theorem lifted (os : Os) (started : os.Started) (H : Type) (enc : TypeId × Value → H) :
    ReturnsInHanded {} Try.checked os 4 .any (Rows.locksStuckSpec.pre6 enc Try.prog Try.f4 Rows.locksStuckRow.domain false) (Rows.locksStuckSpec.post enc Try.prog Try.f4 false true false false) := by
  refine returnsInHanded_of_change_sized (C := Try.checked) own started (by kernel_rfl) Try.func4
    (ChangeSpec.witness6 (enc := enc) (C := Try.checked) false ⟨#[], #[.slice none 0 0], []⟩ 8 (by kernel_rfl) (by kernel_rfl) (by kernel_rfl) (by kernel_rfl)) ?_
  intro W base args ds gs before hval0 hW hcnd hsz0 _
  have hsz : (DataW.weightsEach Try.prog (Try.f4.params.toList ++ Rows.locksStuckSpec.plain.varTypes Try.prog) (ds ++ gs)).all (· ≤ reachBytes) = true := hsz0
  have hval : ∀ (j : Nat) t v, Try.f4.params[j]? = some t → args[j]? = some v → Value.okWide Try.prog W .any base t v := hval0
  have hW' := hW
  obtain ⟨p, q, hA0, hV, rfl, hfz, hnd⟩ := hW
  have hA : DataW.TrodAll enc Try.prog W 0 (fun _ => true) true Try.f4.params.toList args.toList ds p := hA0
  rw [Try.params4] at hA hval hsz
  obtain ⟨v0, vs0, d0, ds0, p0, q0, hargs, rfl, rfl, h0, r0⟩ := trodAll_cons hA
  obtain ⟨rfl, rfl, rfl⟩ := trodAll_nil r0
  obtain rfl : args = #[v0] := by cases args; simp_all
  obtain ⟨rfl, rfl⟩ := trodVars_none hV
  have k0 := h0
  have lt0 : ∀ x ∈ p0, x.block < W.heap.size := by obtain ⟨m, hm⟩ := k0; exact DataW.trod_lt m _ _ _ hm
  obtain ⟨A0, c0, l0, rfl, hc0, hC0, hlen, hG⟩ := Opn.Op.arg_slice (d := QLocksStuck.k52) Try.underlying34 (Opn.Op.slice (W := W) (e := 52) Try.underlying34 (by kernel_rfl) (Opn.Op.st2 Try.underlying52 (fun x : QLocksStuck.S52 => (x.f0, x.f1)) (fun a b => ⟨a, b⟩) (fun _ _ => rfl) rfl rfl (by kernel_rfl) (by kernel_rfl) (by kernel_rfl) (Opn.Op.slice (e := 3) Try.underlying22 (by kernel_rfl) (Opn.Op.int Try.underlying3)) (Opn.Op.int Try.underlying3))) (hval 0 34 v0 rfl rfl) h0 (fun n hn => of_decide_eq_true (List.all_eq_true.1 hsz n (DataW.weights_mem_each (j := 0) (t := 34) rfl rfl n hn)))
  obtain ⟨k, hk⟩ := QLocksStuck.stuck_pure l0 hlen hG
  clear hA0 hval0 hsz0 hsz
  refine (QLocksStuck.turnspitlaw11_LocksStuck.calls k A0 c0 l0 true W hC0 hc0 hk).mono fun e W' ⟨he, bel⟩ => ?_
  subst he
  exact ⟨_, rfl, _, _, _, [], _, [], hW', trodAll_mk1 (shut_bool Try.underlying4 _), (trodAll_cons_mk (Below.trod laidOut (by kernel_rfl) (of_decide_eq_true (by kernel_rfl)) k0 bel lt0) trodAll_mk0), rfl, bel.frame _, fun h => by cases h⟩
theorem over : Rows.locksStuckRow.holds Try.pinned (OpenSpec.ofChange Rows.locksStuckSpec) :=
  OpenClaim.holds_of_wide 4 Try.f4 rfl rfl rfl rfl rfl rfl rfl ⟨rfl, rfl, rfl, rfl, rfl⟩ rfl rfl rfl rfl rfl (by kernel_rfl) Try.func4 (by kernel_rfl)
    (of_decide_eq_true (by kernel_rfl)) (by unfold Func.isWrapper; first | (rw [if_pos (by decide +kernel)]; kernel_rfl) | (rw [if_neg (by decide +kernel)]; exact ⟨rfl, rfl⟩))
    (fun os started H enc _ => lifted os started H enc)
theorem proved : Rows.LocksStuckSaid := over
#print axioms proved
end Go.Proofs.Ytiidjnnagbfokaa.locksStuck
namespace Go.Proofs.Ytiidjnnagbfokaa
/-- The row, under a short name, for the claim. -/
theorem locksStuck_holds : Rows.LocksStuckSaid := locksStuck.proved
end Go.Proofs.Ytiidjnnagbfokaa
