/- Parts of the proof, joined: LawTreeTells. -/
import Derived.Test.YtfapmcpmfeigbaaDoorRows
import Derived.Test.YtfapmcpmfeigbaaDoorUA36
import Derived.Test.YtfapmcpmfeigbaaDoorUA37
import Derived.Test.YtfapmcpmfeigbaaDoorUA38
import Derived.WalkKit
import Derived.ProofKit
import Derived.OpenShut
import Derived.ShutString
import Derived.ChangeOld
import Derived.Below
import Derived.Carry
import Derived.SizedLaws
import Derived.LaidMore
import Derived.SevenTiedAt
import Derived.Test.YtfapmcpmfeigbaaDoorCards
import Derived.Test.YtfapmcpmfeigbaaDoorTie
namespace Go.Proofs.YtfapmcpmfeigbaaDoor.treeTells
open Go.ChangeShapes Go.WideShapes Go.ChangeAt Go.RowKit
open Go.ChangeMaps (open_string shut_string)
set_option linter.unusedVariables false
theorem own : ownKnob Tryd.prog.godebug = none := by kernel_rfl
theorem laidOut : laidOutB Tryd.prog = true := by kernel_rfl
theorem door_met (os : Os) (args : Array Value) : laidMetH Tryd.prog Rows.treeTellsRow.laid ((World.doorLaid Tryd.prog 14 os).forCall (fun _ _ => 0) ⟨#[], args, []⟩).memory :=
  laidMetH_of_parts3 (fuel := 8) (laidMet_of_run' 8 (by kernel_rfl) (by kernel_rfl)) (by kernel_rfl) (by kernel_rfl)
set_option maxRecDepth 100000 in
theorem lifted (os : Os) (started : os.Started) (H : Type) (enc : TypeId × Value → H) :
    ReturnsInHanded {} Tryd.checked os 3 .any (fun w args => (Rows.treeTellsSpec.pre enc Tryd.prog Tryd.f3 [] false w args ∧ laidMetH Tryd.prog Rows.treeTellsRow.laid w) ∧ sizedMet enc Tryd.prog Tryd.f3 (OpenSpec.ofChange Rows.treeTellsSpec) false w args) (Rows.treeTellsSpec.post enc Tryd.prog Tryd.f3 false true false false) := by
  refine returnsInHanded_of_change_and (C := Tryd.checked) (X := fun w _ => laidMetH Tryd.prog Rows.treeTellsRow.laid w) (fun _ _ _ hh h => h.of_heap hh) own started (by kernel_rfl) Tryd.func3
    (ChangeSpec.witness_shaped (enc := enc) (C := Tryd.checked) (os := os) (X := fun w _ => laidMetH Tryd.prog Rows.treeTellsRow.laid w) false (World.doorLaid Tryd.prog 14 os) #[.agg #[.int .i64 0, .slice none 0 0], .int .u64 0, .agg #[.int .u64 0, .int .i64 0]] 8 rfl (World.shaped_of_RefB (by kernel_rfl) (by kernel_rfl)) (by kernel_rfl) (by kernel_rfl) (by kernel_rfl) (door_met os _)) ?_
  intro W base args ds gs before hval0 hW hcnd hsz0 hL _
  have hT : Tm.Emp W := Tm.Emp_of_laid hL
  have hsz : (DataW.weightsEach Tryd.prog (Tryd.f3.params.toList ++ Rows.treeTellsSpec.plain.varTypes Tryd.prog) (ds ++ gs)).all (· ≤ reachBytes) = true := hsz0
  have hval : ∀ (j : Nat) t v, Tryd.f3.params[j]? = some t → args[j]? = some v → Value.okWide Tryd.prog W .any base t v := hval0
  have hW' := hW
  obtain ⟨p, q, hA0, hV, rfl, hfz, hnd⟩ := hW
  have hA : DataW.TrodAll enc Tryd.prog W 0 (fun _ => true) true Tryd.f3.params.toList args.toList ds p := hA0
  rw [Tryd.params3] at hA hval hsz
  obtain ⟨v0, vs0, d0, ds0, p0, q0, hargs, rfl, rfl, h0, r0⟩ := trodAll_cons hA
  obtain ⟨v1, vs1, d1, ds1, p1, q1, rfl, rfl, rfl, h1, r1⟩ := trodAll_cons r0
  obtain ⟨v2, vs2, d2, ds2, p2, q2, rfl, rfl, rfl, h2, r2⟩ := trodAll_cons r1
  obtain ⟨rfl, rfl, rfl⟩ := trodAll_nil r2
  obtain rfl : args = #[v0, v1, v2] := by cases args; simp_all
  obtain ⟨rfl, rfl⟩ := trodVars_none hV
  have k0 := h0
  have lt0 : ∀ x ∈ p0, x.block < W.heap.size := by obtain ⟨m, hm⟩ := k0; exact DataW.trod_lt m _ _ _ hm
  obtain ⟨cs0, t, rfl, hK0, _⟩ := Opn.Op.arg_struct Tryd.underlying24 (Opn.Op.st2 (W := W) Tryd.underlying24 (fun x : QTreeTells.S24 => (x.f0, x.f1)) (fun a b => ⟨a, b⟩) (fun _ _ => rfl) rfl rfl (by kernel_rfl) (by kernel_rfl) (by kernel_rfl) (Opn.Op.int Tryd.underlying3) (Opn.Op.slice (e := 57) Tryd.underlying22 (by kernel_rfl) (Opn.Op.six Tryd.underlying57 (fun x : QTreeTells.S57 => (x.f0, x.f1, x.f2, x.f3, x.f4, x.f5)) (fun a b c d e f => ⟨a, b, c, d, e, f⟩) (fun _ _ _ _ _ _ => rfl) rfl rfl rfl rfl rfl rfl (by kernel_rfl) (by kernel_rfl) (by kernel_rfl) (by kernel_rfl) (by kernel_rfl) (by kernel_rfl) (by kernel_rfl) (Opn.Op.bool Tryd.underlying4) (Opn.Op.bool Tryd.underlying4) (Opn.Op.int Tryd.underlying25) (Opn.Op.int Tryd.underlying3) (Opn.Op.int Tryd.underlying3) (Opn.Op.int Tryd.underlying3)))) (hval 0 24 v0 rfl rfl) h0 (fun n hn => of_decide_eq_true (List.all_eq_true.1 hsz n (DataW.weights_mem_each (j := 0) (t := 24) rfl rfl n hn)))
  obtain ⟨A0, c0, rfl, hc0, hC0⟩ := QTreeTells.k24_open hK0
  obtain ⟨a1, rfl, rfl, rfl, w1⟩ := open_int Tryd.underlying25 (hval 1 25 v1 rfl rfl) h1
  have k2 := h2
  have lt2 : ∀ x ∈ p2, x.block < W.heap.size := by obtain ⟨m, hm⟩ := k2; exact DataW.trod_lt m _ _ _ hm
  obtain ⟨cs2, kk, rfl, hK2, _⟩ := Opn.Op.arg_struct Tryd.underlying27 (Opn.Op.st2 (W := W) Tryd.underlying27 (fun x : QTreeTells.S27 => (x.f0, x.f1)) (fun a b => ⟨a, b⟩) (fun _ _ => rfl) rfl rfl (by kernel_rfl) (by kernel_rfl) (by kernel_rfl) (Opn.Op.int Tryd.underlying25) (Opn.Op.int Tryd.underlying3)) (hval 2 27 v2 rfl rfl) h2 (fun n hn => of_decide_eq_true (List.all_eq_true.1 hsz n (DataW.weights_mem_each (j := 2) (t := 27) rfl rfl n hn)))
  obtain rfl := QTreeTells.k27_open hK2
  obtain ⟨k, hk⟩ := QTreeTells.tells_pure t.f0 t.f1 a1 kk.f0 kk.f1
  clear hA0 hval0 hsz0 hsz
  refine (QTreeTells.turnspitlaw09_TreeTells.calls k t.f0 A0 c0 t.f1 a1 kk.f0 kk.f1 true W hC0 hc0 hT hk).mono fun e W' ⟨he, bel⟩ => ?_
  subst he
  exact ⟨_, rfl, _, _, _, [], _, [], hW', trodAll_mk1 (shut_bool Tryd.underlying4 _), (trodAll_cons_mk (Below.trod laidOut (by kernel_rfl) (of_decide_eq_true (by kernel_rfl)) k0 bel lt0) (trodAll_cons_mk (shut_int Tryd.underlying25 w1) (trodAll_cons_mk (Below.trod laidOut (by kernel_rfl) (of_decide_eq_true (by kernel_rfl)) k2 bel lt2) trodAll_mk0))), rfl, bel.frame _, fun h => by cases h⟩
theorem over : Rows.treeTellsRow.holds Tryd.pinned (OpenSpec.ofChange Rows.treeTellsSpec) :=
  OpenClaim.holds_of_wide 3 Tryd.f3 rfl rfl rfl rfl rfl rfl rfl ⟨rfl, rfl, rfl, rfl, rfl⟩ rfl rfl rfl rfl rfl (by kernel_rfl) Tryd.func3 (by kernel_rfl)
    (of_decide_eq_true (by kernel_rfl)) (by unfold Func.isWrapper; first | (rw [if_pos (by decide +kernel)]; kernel_rfl) | (rw [if_neg (by decide +kernel)]; exact ⟨rfl, rfl⟩))
    (fun os started H enc _ => lifted os started H enc)
theorem params_plain : (Tryd.f3.params.toList.all fun u => !Tryd.prog.wantsStandIn u) = true := by kernel_rfl
theorem proved : Rows.TreeTellsCardSaid :=
  Claim7.holds_tied_plain_at .later [] [.data] true (true, "4a363d93db4f4c43e10db97d92f75dc1c925cc4f244d0d546804930fd8c83181") false
    over (fun _ h => by cases h) (by kernel_rfl) (fun _ h => by cases h) treeTells_row_tie rfl ⟨rfl, rfl⟩ (by kernel_rfl) rfl
    (fun f fn hf hfn => by
      obtain rfl : f = 3 := Option.some.inj ((show Tryd.prog.funcNamed "turnspit/turnspitlaw09.TreeTells" = some 3 by kernel_rfl).symm.trans hf) |>.symm
      obtain rfl : fn = Tryd.f3 := (Option.some.inj (Tryd.func3.symm.trans hfn)).symm
      exact ⟨by kernel_rfl, fun j t ht => by
        have hm : t ∈ Tryd.f3.params.toList := by rw [Array.mem_toList_iff]; exact Array.mem_of_getElem? ht
        exact (show Tryd.prog.wantsStandIn t = false by simpa using List.all_eq_true.1 params_plain t hm)⟩)
    (by kernel_rfl)
#print axioms proved
end Go.Proofs.YtfapmcpmfeigbaaDoor.treeTells
namespace Go.Proofs.YtfapmcpmfeigbaaDoor
theorem treeTells_holds : Rows.TreeTellsCardSaid := treeTells.proved
end Go.Proofs.YtfapmcpmfeigbaaDoor
