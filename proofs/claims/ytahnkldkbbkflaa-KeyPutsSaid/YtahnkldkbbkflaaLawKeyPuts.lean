/- The law KeyPuts answers true at every input that its row lets in, and leaves its arguments as they were; no condition. -/
import Derived.Test.YtahnkldkbbkflaaRows
import Derived.Test.YtahnkldkbbkflaaQKeyPutsx6
import Derived.Test.YtahnkldkbbkflaaPureKeyPuts
import Derived.Test.YtahnkldkbbkflaaOpen
import Derived.WalkKit
import Derived.ProofKit
import Derived.OpenShut
import Derived.ShutString
import Derived.ChangeOld
import Derived.Below
import Derived.Carry
import Derived.SizedLaws
namespace Go.Proofs.Ytahnkldkbbkflaa.keyPuts
open Go.ChangeShapes Go.WideShapes Go.ChangeAt Go.RowKit
open Go.ChangeMaps (open_string shut_string)
set_option linter.unusedVariables false
theorem own : ownKnob Try.prog.godebug = none := by kernel_rfl
theorem laidOut : laidOutB Try.prog = true := by kernel_rfl
set_option maxRecDepth 100000 in
theorem lifted (os : Os) (started : os.Started) (H : Type) (enc : TypeId × Value → H) :
    ReturnsInHanded {} Try.checked os 4 .any (Rows.keyPutsSpec.pre6 enc Try.prog Try.f4 Rows.keyPutsRow.domain false) (Rows.keyPutsSpec.post enc Try.prog Try.f4 false true false false) := by
  refine returnsInHanded_of_change_sized (C := Try.checked) own started (by kernel_rfl) Try.func4
    (ChangeSpec.witness6 (enc := enc) (C := Try.checked) false ⟨#[], #[.int .u64 0, .slice none 0 0, .agg #[.int .u64 0, .int .i64 0]], []⟩ 8 (by kernel_rfl) (by kernel_rfl) (by kernel_rfl) (by kernel_rfl)) ?_
  intro W base args ds gs before hval0 hW hcnd hsz0 _
  have hsz : (DataW.weightsEach Try.prog (Try.f4.params.toList ++ Rows.keyPutsSpec.plain.varTypes Try.prog) (ds ++ gs)).all (· ≤ reachBytes) = true := hsz0
  have hval : ∀ (j : Nat) t v, Try.f4.params[j]? = some t → args[j]? = some v → Value.okWide Try.prog W .any base t v := hval0
  have hW' := hW
  obtain ⟨p, q, hA0, hV, rfl, hfz, hnd⟩ := hW
  have hA : DataW.TrodAll enc Try.prog W 0 (fun _ => true) true Try.f4.params.toList args.toList ds p := hA0
  rw [Try.params4] at hA hval hsz
  obtain ⟨v0, vs0, d0, ds0, p0, q0, hargs, rfl, rfl, h0, r0⟩ := trodAll_cons hA
  obtain ⟨v1, vs1, d1, ds1, p1, q1, rfl, rfl, rfl, h1, r1⟩ := trodAll_cons r0
  obtain ⟨v2, vs2, d2, ds2, p2, q2, rfl, rfl, rfl, h2, r2⟩ := trodAll_cons r1
  obtain ⟨rfl, rfl, rfl⟩ := trodAll_nil r2
  obtain rfl : args = #[v0, v1, v2] := by cases args; simp_all
  obtain ⟨rfl, rfl⟩ := trodVars_none hV
  obtain ⟨a0, rfl, rfl, rfl, w0⟩ := open_int Try.underlying22 (hval 0 22 v0 rfl rfl) h0
  have k1 := h1
  have lt1 : ∀ x ∈ p1, x.block < W.heap.size := by obtain ⟨m, hm⟩ := k1; exact DataW.trod_lt m _ _ _ hm
  obtain ⟨A1, c1, l1, rfl, hc1, hC1, hlen1, hG1⟩ := Opn.Op.arg_slice (d := QKeyPuts.k26) Try.underlying23 (Opn.Op.slice (W := W) (e := 26) Try.underlying23 (by kernel_rfl) (Opn.Op.st2 Try.underlying26 (fun x : QKeyPuts.S26 => (x.f0, x.f1)) (fun a b => ⟨a, b⟩) (fun _ _ => rfl) rfl rfl (by kernel_rfl) (by kernel_rfl) (by kernel_rfl) (Opn.Op.int Try.underlying22) (Opn.Op.int Try.underlying3))) (hval 1 23 v1 rfl rfl) h1 (fun n hn => of_decide_eq_true (List.all_eq_true.1 hsz n (DataW.weights_mem_each (j := 1) (t := 23) rfl rfl n hn)))
  have k2 := h2
  have lt2 : ∀ x ∈ p2, x.block < W.heap.size := by obtain ⟨m, hm⟩ := k2; exact DataW.trod_lt m _ _ _ hm
  obtain ⟨cs2, kk, rfl, hK2, hG2⟩ := Opn.Op.arg_struct Try.underlying26 (Opn.Op.st2 (W := W) Try.underlying26 (fun x : QKeyPuts.S26 => (x.f0, x.f1)) (fun a b => ⟨a, b⟩) (fun _ _ => rfl) rfl rfl (by kernel_rfl) (by kernel_rfl) (by kernel_rfl) (Opn.Op.int Try.underlying22) (Opn.Op.int Try.underlying3)) (hval 2 26 v2 rfl rfl) h2 (fun n hn => of_decide_eq_true (List.all_eq_true.1 hsz n (DataW.weights_mem_each (j := 2) (t := 26) rfl rfl n hn)))
  obtain rfl := QKeyPuts.k26_open hK2
  obtain ⟨k, hk⟩ := QKeyPuts.puts a0 l1 kk w0 hG1 hG2
  clear hA0 hval0 hsz0 hsz
  refine (QKeyPuts.turnspitlaw08_KeyPuts.calls k a0 A1 c1 l1 kk.f0 kk.f1 true W hC1 hc1 hk).mono fun e W' ⟨he, bel⟩ => ?_
  subst he
  exact ⟨_, rfl, _, _, _, [], _, [], hW', trodAll_mk1 (shut_bool Try.underlying4 _), (trodAll_cons_mk (shut_int Try.underlying22 w0) (trodAll_cons_mk (Below.trod laidOut (by kernel_rfl) (of_decide_eq_true (by kernel_rfl)) k1 bel lt1) (trodAll_cons_mk (Below.trod laidOut (by kernel_rfl) (of_decide_eq_true (by kernel_rfl)) k2 bel lt2) trodAll_mk0))), rfl, bel.frame _, fun h => by cases h⟩
theorem over : Rows.keyPutsRow.holds Try.pinned (OpenSpec.ofChange Rows.keyPutsSpec) :=
  OpenClaim.holds_of_wide 4 Try.f4 rfl rfl rfl rfl rfl rfl rfl ⟨rfl, rfl, rfl, rfl, rfl⟩ rfl rfl rfl rfl rfl (by kernel_rfl) Try.func4 (by kernel_rfl)
    (of_decide_eq_true (by kernel_rfl)) (by unfold Func.isWrapper; first | (rw [if_pos (by decide +kernel)]; kernel_rfl) | (rw [if_neg (by decide +kernel)]; exact ⟨rfl, rfl⟩))
    (fun os started H enc _ => lifted os started H enc)
theorem proved : Rows.KeyPutsSaid := over
#print axioms proved
end Go.Proofs.Ytahnkldkbbkflaa.keyPuts
namespace Go.Proofs.Ytahnkldkbbkflaa
/-- The row, under a short name, for the claim. -/
theorem keyPuts_holds : Rows.KeyPutsSaid := keyPuts.proved
end Go.Proofs.Ytahnkldkbbkflaa
