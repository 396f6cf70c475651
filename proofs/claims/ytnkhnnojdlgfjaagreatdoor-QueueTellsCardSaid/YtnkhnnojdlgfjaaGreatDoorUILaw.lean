/- Parts of the proof, joined: LawQueueTells. -/
import Derived.Test.YtnkhnnojdlgfjaaGreatDoorRows
import Derived.Test.YtnkhnnojdlgfjaaGreatDoorUI44
import Derived.WalkKit
import Derived.ProofKit
import Derived.OpenShut
import Derived.ShutString
import Derived.ChangeOld
import Derived.Below
import Derived.Carry
import Derived.SizedLaws
import Derived.LaidMore
import Derived.SevenTiedAt
import Derived.Test.YtnkhnnojdlgfjaaGreatDoorCards
import Derived.Test.YtnkhnnojdlgfjaaGreatDoorTie
namespace Go.Proofs.YtnkhnnojdlgfjaaGreatDoor.queueTells
open Go.ChangeShapes Go.WideShapes Go.ChangeAt Go.RowKit
open Go.ChangeMaps (open_string shut_string)
set_option linter.unusedVariables false
theorem own : ownKnob Tryz.prog.godebug = none := by kernel_rfl
theorem laidOut : laidOutB Tryz.prog = true := by kernel_rfl
theorem door_met (os : Os) (args : Array Value) : laidMetH Tryz.prog Rows.queueTellsRow.laid ((World.doorLaid Tryz.prog 14 os).forCall (fun _ _ => 0) ⟨#[], args, []⟩).memory :=
 laidMetH_of_parts3 (fuel := 8) (laidMet_of_run' 8 (by kernel_rfl) (by kernel_rfl)) (by kernel_rfl) (by kernel_rfl)
set_option maxRecDepth 100000 in
theorem lifted (os : Os) (started : os.Started) (H : Type) (enc : TypeId × Value → H) :
  ReturnsInHanded {} Tryz.checked os 5 .any (fun w args => (Rows.queueTellsSpec.pre enc Tryz.prog Tryz.f5 [] false w args ∧ laidMetH Tryz.prog Rows.queueTellsRow.laid w) ∧ sizedMet enc Tryz.prog Tryz.f5 (OpenSpec.ofChange Rows.queueTellsSpec) false w args) (Rows.queueTellsSpec.post enc Tryz.prog Tryz.f5 false true false false) := by
 refine returnsInHanded_of_change_and (C := Tryz.checked) (X := fun w _ => laidMetH Tryz.prog Rows.queueTellsRow.laid w) (fun _ _ _ hh h => h.of_heap hh) own started (by kernel_rfl) Tryz.func5
  (ChangeSpec.witness_shaped (enc := enc) (C := Tryz.checked) (os := os) (X := fun w _ => laidMetH Tryz.prog Rows.queueTellsRow.laid w) false (World.doorLaid Tryz.prog 14 os) #[.agg #[.int .i64 0, .slice none 0 0, .int .i64 0, .int .u64 0, .int .u64 0, .int .i64 0, .slice none 0 0, .int .i64 0, .int .i64 0, .int .i64 0]] 8 rfl (World.shaped_of_RefB (by kernel_rfl) (by kernel_rfl)) (by kernel_rfl) (by kernel_rfl) (by kernel_rfl) (door_met os _)) ?_
 intro W base args ds gs before hval0 hW hcnd hsz0 hL _
 have hT : Tm.Emp W := Tm.Emp_of_laid hL
 have hsz : (DataW.weightsEach Tryz.prog (Tryz.f5.params.toList ++ Rows.queueTellsSpec.plain.varTypes Tryz.prog) (ds ++ gs)).all (· ≤ reachBytes) = true := hsz0
 have hval : ∀ (j : Nat) t v, Tryz.f5.params[j]? = some t → args[j]? = some v → Value.okWide Tryz.prog W .any base t v := hval0
 have hW' := hW
 obtain ⟨p, q, hA0, hV, rfl, hfz, hnd⟩ := hW
 have hA : DataW.TrodAll enc Tryz.prog W 0 (fun _ => true) true Tryz.f5.params.toList args.toList ds p := hA0
 rw [Tryz.params5] at hA hval hsz
 obtain ⟨v0, vs0, d0, ds0, p0, q0, hargs, rfl, rfl, h0, r0⟩ := trodAll_cons hA
 obtain ⟨rfl, rfl, rfl⟩ := trodAll_nil r0
 obtain rfl : args = #[v0] := by cases args; simp_all
 obtain ⟨rfl, rfl⟩ := trodVars_none hV
 have k0 := h0
 have lt0 : ∀ x ∈ p0, x.block < W.heap.size := by obtain ⟨m, hm⟩ := k0; exact DataW.trod_lt m _ _ _ hm
 obtain ⟨cs0, rfl, hcs0⟩ := okWide_struct Tryz.underlying48 (hval 0 48 v0 rfl rfl)
 obtain ⟨m0, hm0⟩ := h0
 obtain ⟨qq, id, x, n, c0, c1, c2, c3, hcc, hK, _, rfl, _, rfl, _, rfl, _⟩ := Opn.Op.st4 (W := W) (d0 := Qw.kq) (d1 := Go.Proofs.YtnkhnnojdlgfjaaGreatDoor.PA.Kd.int .i64) (d2 := Go.Proofs.YtnkhnnojdlgfjaaGreatDoor.PA.Kd.int .i64) (d3 := Go.Proofs.YtnkhnnojdlgfjaaGreatDoor.PA.Kd.int .i64) Tryz.underlying48 rfl rfl rfl rfl (by kernel_rfl) (by kernel_rfl) (by kernel_rfl) (by kernel_rfl) (show Opn.Op Tryz.prog W 30 Qw.kq _ from Opn.Op.st6 Tryz.underlying30 (fun x : Qu.Q => (x.t, x.cur, x.v, x.mn, x.load, x.ws)) Qw.toQ (fun _ _ _ _ _ _ => rfl) rfl rfl rfl rfl rfl rfl (by kernel_rfl) (by kernel_rfl) (by kernel_rfl) (by kernel_rfl) (by kernel_rfl) (by kernel_rfl) (by kernel_rfl) (show Opn.Op Tryz.prog W 27 Qw.kt _ from Opn.Op.st2 Tryz.underlying27 (fun x : Tr.St => (x.rt, x.ns)) (fun a b => ⟨b, a⟩) (fun _ _ => rfl) rfl rfl (by kernel_rfl) (by kernel_rfl) (by kernel_rfl) (Opn.Op.int Tryz.underlying3) (Opn.Op.slice (e := 72) Tryz.underlying25 (by kernel_rfl) (show Opn.Op Tryz.prog W 72 Tm.kn _ from Opn.Op.six Tryz.underlying72 (fun x : Tr.Nd => (x.inn, x.red, x.v, x.l, x.r, x.u)) (fun a b c d e f => ⟨a, b, c, d, e, f⟩) (fun _ _ _ _ _ _ => rfl) rfl rfl rfl rfl rfl rfl (by kernel_rfl) (by kernel_rfl) (by kernel_rfl) (by kernel_rfl) (by kernel_rfl) (by kernel_rfl) (by kernel_rfl) (Opn.Op.bool Tryz.underlying4) (Opn.Op.bool Tryz.underlying4) (Opn.Op.int Tryz.underlying22) (Opn.Op.int Tryz.underlying3) (Opn.Op.int Tryz.underlying3) (Opn.Op.int Tryz.underlying3)))) (Opn.Op.int Tryz.underlying3) (Opn.Op.int Tryz.underlying22) (Opn.Op.int Tryz.underlying22) (Opn.Op.int Tryz.underlying3) (Opn.Op.slice (e := 3) Tryz.underlying28 (by kernel_rfl) (Opn.Op.int Tryz.underlying3))) (Opn.Op.int Tryz.underlying3) (Opn.Op.int Tryz.underlying3) (Opn.Op.int Tryz.underlying3) (by kernel_rfl) hm0 (fun n hn => of_decide_eq_true (List.all_eq_true.1 hsz n (DataW.weights_mem_each (j := 0) (t := 48) rfl rfl n hn)))
 obtain ⟨A, c, B, d, rfl, hc, hC, hd, hD⟩ := Qw.kq_open hK
 have hcs : cs0 = #[.int .i64 qq.t.rt, .slice A qq.t.ns.length c, .int .i64 qq.cur, .int .u64 qq.v, .int .u64 qq.mn, .int .i64 qq.load, .slice B qq.ws.length d, .int .i64 id, .int .i64 x, .int .i64 n] := by apply Array.toList_inj.1; exact hcc
 subst hcs; clear hA0 hval0 hsz0 hsz
 refine (Qw.Tells_ (q := qq) (fun h1 h2 => Qw.QIn.of_C hC (by omega) hc hD (by omega) hd) hT id x n).mono fun e W' ⟨he, bel⟩ => ?_
 subst he
 exact ⟨_, rfl, _, _, _, [], _, [], hW', trodAll_mk1 (shut_bool Tryz.underlying4 _), (trodAll_cons_mk (Below.trod laidOut (by kernel_rfl) (of_decide_eq_true (by kernel_rfl)) k0 bel lt0) trodAll_mk0), rfl, bel.frame _, fun h => by cases h⟩
theorem over : Rows.queueTellsRow.holds Tryz.pinned (OpenSpec.ofChange Rows.queueTellsSpec) :=
 OpenClaim.holds_of_wide 5 Tryz.f5 rfl rfl rfl rfl rfl rfl rfl ⟨rfl, rfl, rfl, rfl, rfl⟩ rfl rfl rfl rfl rfl (by kernel_rfl) Tryz.func5 (by kernel_rfl)
  (of_decide_eq_true (by kernel_rfl)) (by unfold Func.isWrapper; first | (rw [if_pos (by decide +kernel)]; kernel_rfl) | (rw [if_neg (by decide +kernel)]; exact ⟨rfl, rfl⟩))
  (fun os started H enc _ => lifted os started H enc)
theorem params_plain : (Tryz.f5.params.toList.all fun u => !Tryz.prog.wantsStandIn u) = true := by kernel_rfl
theorem proved : Rows.QueueTellsCardSaid :=
 Claim7.holds_tied_plain_at .later [] [.data] true (true, "481664d76bf9d3d09dccadf15bc5002332fc52a6df6c6293de597d4df94f543a") false
  over (fun _ h => by cases h) (by kernel_rfl) (fun _ h => by cases h) queueTells_row_tie rfl ⟨rfl, rfl⟩ (by kernel_rfl) rfl
  (fun f fn hf hfn => by
   obtain rfl : f = 5 := Option.some.inj ((show Tryz.prog.funcNamed "turnspit/turnspitlaw12.QueueTells" = some 5 by kernel_rfl).symm.trans hf) |>.symm
   obtain rfl : fn = Tryz.f5 := (Option.some.inj (Tryz.func5.symm.trans hfn)).symm
   exact ⟨by kernel_rfl, fun j t ht => by
    have hm : t ∈ Tryz.f5.params.toList := by rw [Array.mem_toList_iff]; exact Array.mem_of_getElem? ht
    exact (show Tryz.prog.wantsStandIn t = false by simpa using List.all_eq_true.1 params_plain t hm)⟩)
  (by kernel_rfl)
#print axioms proved
end Go.Proofs.YtnkhnnojdlgfjaaGreatDoor.queueTells
namespace Go.Proofs.YtnkhnnojdlgfjaaGreatDoor
theorem queueTells_holds : Rows.QueueTellsCardSaid := queueTells.proved
end Go.Proofs.YtnkhnnojdlgfjaaGreatDoor
