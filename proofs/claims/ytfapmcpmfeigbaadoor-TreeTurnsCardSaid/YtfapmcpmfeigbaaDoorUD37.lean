/- Parts of the proof, joined: QTreeTurnsx14. -/
import Derived.Test.YtfapmcpmfeigbaaDoorUD32
import Derived.Test.YtfapmcpmfeigbaaDoorUD33
import Derived.Test.YtfapmcpmfeigbaaDoorUD35
import Derived.Test.YtfapmcpmfeigbaaDoorUD36
namespace Go.Proofs.YtfapmcpmfeigbaaDoor.QTreeTurns
open Go.RowKit Go.Proofs.YtfapmcpmfeigbaaDoorW.PrintWords Go.Proofs.YtfapmcpmfeigbaaDoorW.PrintLast Go.Proofs.YtfapmcpmfeigbaaDoorW.PrintMore
attribute [local go_sem] kR kP vN vM jP jO kQ kN   -- for this text's walks alone
set_option linter.unusedVariables false
set_option linter.unusedSimpArgs false
def turnspitlaw09_TreeTurns.f (k : Nat) (a0 : Int) (l1 : List Int) (a2 : Int) : Option (Bool) := (turnspitlaw09_awake.f).bind fun t434 => (if t434 = true then ((turnspitlaw09_Made.f k a0 l1).bind fun bt435 => ((tree_Insert.f bt435.1 bt435.2 a0 (IntKind.u64.wrap (a0 + 7)) ((l1.length : Int) % 24)).bind fun bt441 => ((turnspitlaw09_turned.f k bt435.1 bt435.2 a2).bind fun bt447 => ((tree_Insert.f bt447.1 bt447.2 (IntKind.u64.wrap (a0 + a2)) (IntKind.u64.wrap ((IntKind.u64.wrap (a0 + 7)) + a2)) ((l1.length : Int) % 24)).bind fun bt451 => ((tree_Delete.f bt435.1 bt435.2 a0 ((l1.length : Int) % 24)).bind fun bt457 => ((turnspitlaw09_turned.f k bt435.1 bt435.2 a2).bind fun bt463 => ((tree_Delete.f bt463.1 bt463.2 (IntKind.u64.wrap (a0 + a2)) ((l1.length : Int) % 24)).bind fun bt467 => (if bt441.2.2 = bt451.2.2 then (if bt457.2.2 = bt467.2.2 then (if ((bt441.2.2 == 0) != (bt457.2.2 == 0)) = true then ((turnspitlaw09_turned.f k bt441.1 bt441.2.1 a2).bind fun bt473 => ((turnspitref09_Same.f k bt473.1 bt473.2 bt451.1 bt451.2.1).bind fun t477 => (if t477 = true then ((turnspitlaw09_turned.f k bt457.1 bt457.2.1 a2).bind fun bt478 => ((turnspitref09_Same.f k bt478.1 bt478.2 bt467.1 bt467.2.1).bind fun t482 => (some t482))) else (some false)))) else (some false)) else (some false)) else (some false))))))))) else (some false))
def turnspitlaw09_TreeTurns.T7 : Bool × List (List Nat × List Nat) := (true, [([], []), ([], []), ([0, 1], [0, 1]), ([], []), ([], []), ([3, 4], [3, 4]), ([], []), ([6], [6]), ([], []), ([7, 8], [7, 8]), ([], []), ([10], [10]), ([9, 11], [9, 11]), ([2, 5, 12, 2], [2, 5, 12]), ([13], [13]), ([14], [14]), ([14], [14]), ([], []), ([17, 15, 13, 0, 1, 2, 3, 4, 5, 6, 7, 8, 9, 10, 11, 12, 13, 14, 15, 17], [15, 17]), ([16, 18, 0, 1, 2, 3, 4, 5, 6, 7, 8, 9, 10, 11, 12, 13, 14, 15, 16, 17, 18], [16])])
def turnspitlaw09_TreeTurns.B7 : List Nat := [0, 0, 3, 0, 0, 24, 0, 64, 0, 448, 0, 1024, 4032, 8191, 16383, 32767, 32767, 0, 196607, 524287]
theorem turnspitlaw09_TreeTurns.tab7 : rtab .any (opsOf Tryd.f9 7) = turnspitlaw09_TreeTurns.T7 := by kernel_rfl
theorem turnspitlaw09_TreeTurns.bits7 : vL turnspitlaw09_TreeTurns.T7.2 turnspitlaw09_TreeTurns.B7 = true := by kernel_rfl
def turnspitlaw09_TreeTurns.T9 : Bool × List (List Nat × List Nat) := (true, [([], []), ([], []), ([0, 1], [0, 1]), ([], []), ([], []), ([3, 4], [3, 4]), ([], []), ([6], [6]), ([2, 5, 7, 2], [2, 5, 7]), ([8], [8]), ([9], [9]), ([9], [9]), ([], []), ([12, 10, 8, 0, 1, 2, 3, 4, 5, 6, 7, 8, 9, 10, 12], [10, 12]), ([11, 13, 0, 1, 2, 3, 4, 5, 6, 7, 8, 9, 10, 11, 12, 13], [11])])
def turnspitlaw09_TreeTurns.B9 : List Nat := [0, 0, 3, 0, 0, 24, 0, 64, 255, 511, 1023, 1023, 0, 6143, 16383]
theorem turnspitlaw09_TreeTurns.tab9 : rtab .any (opsOf Tryd.f9 9) = turnspitlaw09_TreeTurns.T9 := by kernel_rfl
theorem turnspitlaw09_TreeTurns.bits9 : vL turnspitlaw09_TreeTurns.T9.2 turnspitlaw09_TreeTurns.B9 = true := by kernel_rfl
def turnspitlaw09_TreeTurns.T10 : Bool × List (List Nat × List Nat) := (true, [([], []), ([0], [0]), ([1], [1]), ([1], [1]), ([2, 3, 1], [1, 2, 3]), ([1, 4], [1, 4]), ([5, 1], [5]), ([6], [6]), ([6], [6]), ([7, 8, 6], [6, 7, 8]), ([6, 9], [6, 9]), ([10, 6], [10]), ([11], [11]), ([12, 11], [11, 12]), ([11], [11]), ([14, 11], [11, 14]), ([13, 15, 11], [11, 13, 15]), ([11, 16], [11, 16]), ([17, 11], [17]), ([18], [18]), ([18], [18]), ([19, 20, 18, 18], [18, 19, 20]), ([18], [18]), ([21, 22, 21, 18], [18, 21, 22]), ([18, 23], [18, 23]), ([24, 23], [24]), ([25], [25]), ([25], [25]), ([26, 27, 25, 25], [25, 26, 27]), ([25], [25]), ([28, 29, 28, 25], [25, 28, 29]), ([25, 30], [25, 30]), ([31, 30, 0, 1, 2, 3, 4, 5, 6, 7, 8, 9, 10, 11, 12, 13, 14, 15, 16, 17, 18, 19, 20, 21, 22, 23, 24, 25, 26, 27, 28, 29, 30, 31], [31])])
def turnspitlaw09_TreeTurns.B10 : List Nat := [0, 1, 3, 3, 15, 31, 63, 127, 127, 511, 1023, 2047, 4095, 8191, 4095, 20479, 65535, 131071, 262143, 524287, 524287, 2097151, 524287, 8388607, 16777215, 33554431, 67108863, 67108863, 268435455, 67108863, 1073741823, 2147483647, 4294967295]
theorem turnspitlaw09_TreeTurns.tab10 : rtab .any (opsOf Tryd.f9 10) = turnspitlaw09_TreeTurns.T10 := by kernel_rfl
theorem turnspitlaw09_TreeTurns.bits10 : vL turnspitlaw09_TreeTurns.T10.2 turnspitlaw09_TreeTurns.B10 = true := by kernel_rfl
set_option maxHeartbeats 8000000 in
set_option maxRecDepth 100000 in
theorem turnspitlaw09_TreeTurns.calls (k : Nat) (a0 : Int) (A1 : Option Addr) (c1 : Nat) (l1 : List Int) (a2 : Int) (r : Bool) (w : World) (hr1 : Kd.C (Kd.int .u16) w A1 l1.length l1) (hc1 : l1.length ≤ c1) (hT : Tm.Emp w) (h : turnspitlaw09_TreeTurns.f k a0 l1 a2 = some r) (hr_ : r = true := by rfl) :
  Calls Tryd.prog 9 #[.int .u64 a0, .slice A1 l1.length c1, .int .u64 a2] w fun e w' => e = .returned (.bool r) ∧ Below w.heap.size w w' := by
 have hu24 := Tryd.underlying24
 have hu27 := Tryd.underlying27
 have HR1 := zA.mk hr1; have HC1 := zA.mk hc1; clear hr1 hc1
 have HB := zA.mk (Below.refl w.heap.size w)
 have H : ((turnspitlaw09_awake.f).bind fun t434 => (if t434 = true then ((turnspitlaw09_Made.f k a0 l1).bind fun bt435 => ((tree_Insert.f bt435.1 bt435.2 a0 (IntKind.u64.wrap (a0 + 7)) ((l1.length : Int) % 24)).bind fun bt441 => ((turnspitlaw09_turned.f k bt435.1 bt435.2 a2).bind fun bt447 => ((tree_Insert.f bt447.1 bt447.2 (IntKind.u64.wrap (a0 + a2)) (IntKind.u64.wrap ((IntKind.u64.wrap (a0 + 7)) + a2)) ((l1.length : Int) % 24)).bind fun bt451 => ((tree_Delete.f bt435.1 bt435.2 a0 ((l1.length : Int) % 24)).bind fun bt457 => ((turnspitlaw09_turned.f k bt435.1 bt435.2 a2).bind fun bt463 => ((tree_Delete.f bt463.1 bt463.2 (IntKind.u64.wrap (a0 + a2)) ((l1.length : Int) % 24)).bind fun bt467 => (if bt441.2.2 = bt451.2.2 then (if bt457.2.2 = bt467.2.2 then (if ((bt441.2.2 == 0) != (bt457.2.2 == 0)) = true then ((turnspitlaw09_turned.f k bt441.1 bt441.2.1 a2).bind fun bt473 => ((turnspitref09_Same.f k bt473.1 bt473.2 bt451.1 bt451.2.1).bind fun t477 => (if t477 = true then ((turnspitlaw09_turned.f k bt457.1 bt457.2.1 a2).bind fun bt478 => ((turnspitref09_Same.f k bt478.1 bt478.2 bt467.1 bt467.2.1).bind fun t482 => (some t482))) else (some false)))) else (some false)) else (some false)) else (some false))))))))) else (some false))) = some r := h
 clear h
 replace H := Option.bind_eq_some_iff.mp H
 obtain ⟨t434, A40, H⟩ := H
 replace H : (if t434 = true then ((turnspitlaw09_Made.f k a0 l1).bind fun bt435 => ((tree_Insert.f bt435.1 bt435.2 a0 (IntKind.u64.wrap (a0 + 7)) ((l1.length : Int) % 24)).bind fun bt441 => ((turnspitlaw09_turned.f k bt435.1 bt435.2 a2).bind fun bt447 => ((tree_Insert.f bt447.1 bt447.2 (IntKind.u64.wrap (a0 + a2)) (IntKind.u64.wrap ((IntKind.u64.wrap (a0 + 7)) + a2)) ((l1.length : Int) % 24)).bind fun bt451 => ((tree_Delete.f bt435.1 bt435.2 a0 ((l1.length : Int) % 24)).bind fun bt457 => ((turnspitlaw09_turned.f k bt435.1 bt435.2 a2).bind fun bt463 => ((tree_Delete.f bt463.1 bt463.2 (IntKind.u64.wrap (a0 + a2)) ((l1.length : Int) % 24)).bind fun bt467 => (if bt441.2.2 = bt451.2.2 then (if bt457.2.2 = bt467.2.2 then (if ((bt441.2.2 == 0) != (bt457.2.2 == 0)) = true then ((turnspitlaw09_turned.f k bt441.1 bt441.2.1 a2).bind fun bt473 => ((turnspitref09_Same.f k bt473.1 bt473.2 bt451.1 bt451.2.1).bind fun t477 => (if t477 = true then ((turnspitlaw09_turned.f k bt457.1 bt457.2.1 a2).bind fun bt478 => ((turnspitref09_Same.f k bt478.1 bt478.2 bt467.1 bt467.2.1).bind fun t482 => (some t482))) else (some false)))) else (some false)) else (some false)) else (some false))))))))) else (some false)) = some r := H
 have A4 := zA.mk A40; clear A40
 by_cases c5 : t434 = true
 rotate_left
 ·replace c5 := Bool.eq_false_iff.mpr c5
  subst c5
  have H1 : (some false) = some r := by first | (rw [if_neg (show ¬ (false = true) by decide)] at H; exact H) | (rw [if_neg (fun h => h)] at H; exact H)
  clear H; have H := H1; clear H1
  rw [hr_] at H; simp at H
 subst c5
 have H1 : ((turnspitlaw09_Made.f k a0 l1).bind fun bt435 => ((tree_Insert.f bt435.1 bt435.2 a0 (IntKind.u64.wrap (a0 + 7)) ((l1.length : Int) % 24)).bind fun bt441 => ((turnspitlaw09_turned.f k bt435.1 bt435.2 a2).bind fun bt447 => ((tree_Insert.f bt447.1 bt447.2 (IntKind.u64.wrap (a0 + a2)) (IntKind.u64.wrap ((IntKind.u64.wrap (a0 + 7)) + a2)) ((l1.length : Int) % 24)).bind fun bt451 => ((tree_Delete.f bt435.1 bt435.2 a0 ((l1.length : Int) % 24)).bind fun bt457 => ((turnspitlaw09_turned.f k bt435.1 bt435.2 a2).bind fun bt463 => ((tree_Delete.f bt463.1 bt463.2 (IntKind.u64.wrap (a0 + a2)) ((l1.length : Int) % 24)).bind fun bt467 => (if bt441.2.2 = bt451.2.2 then (if bt457.2.2 = bt467.2.2 then (if ((bt441.2.2 == 0) != (bt457.2.2 == 0)) = true then ((turnspitlaw09_turned.f k bt441.1 bt441.2.1 a2).bind fun bt473 => ((turnspitref09_Same.f k bt473.1 bt473.2 bt451.1 bt451.2.1).bind fun t477 => (if t477 = true then ((turnspitlaw09_turned.f k bt457.1 bt457.2.1 a2).bind fun bt478 => ((turnspitref09_Same.f k bt478.1 bt478.2 bt467.1 bt467.2.1).bind fun t482 => (some t482))) else (some false)))) else (some false)) else (some false)) else (some false))))))))) = some r := by first | (rw [if_pos rfl] at H; exact H) | (rw [if_pos trivial] at H; exact H)
 clear H; have H := H1; clear H1
 replace H := Option.bind_eq_some_iff.mp H
 obtain ⟨⟨t435, t436⟩, A60, H⟩ := H
 replace H : ((tree_Insert.f t435 t436 a0 (IntKind.u64.wrap (a0 + 7)) ((l1.length : Int) % 24)).bind fun bt441 => ((turnspitlaw09_turned.f k t435 t436 a2).bind fun bt447 => ((tree_Insert.f bt447.1 bt447.2 (IntKind.u64.wrap (a0 + a2)) (IntKind.u64.wrap ((IntKind.u64.wrap (a0 + 7)) + a2)) ((l1.length : Int) % 24)).bind fun bt451 => ((tree_Delete.f t435 t436 a0 ((l1.length : Int) % 24)).bind fun bt457 => ((turnspitlaw09_turned.f k t435 t436 a2).bind fun bt463 => ((tree_Delete.f bt463.1 bt463.2 (IntKind.u64.wrap (a0 + a2)) ((l1.length : Int) % 24)).bind fun bt467 => (if bt441.2.2 = bt451.2.2 then (if bt457.2.2 = bt467.2.2 then (if ((bt441.2.2 == 0) != (bt457.2.2 == 0)) = true then ((turnspitlaw09_turned.f k bt441.1 bt441.2.1 a2).bind fun bt473 => ((turnspitref09_Same.f k bt473.1 bt473.2 bt451.1 bt451.2.1).bind fun t477 => (if t477 = true then ((turnspitlaw09_turned.f k bt457.1 bt457.2.1 a2).bind fun bt478 => ((turnspitref09_Same.f k bt478.1 bt478.2 bt467.1 bt467.2.1).bind fun t482 => (some t482))) else (some false)))) else (some false)) else (some false)) else (some false)))))))) = some r := H
 have A6 := zA.mk A60; clear A60
 replace H := Option.bind_eq_some_iff.mp H
 obtain ⟨⟨t441, t442, t445⟩, A70, H⟩ := H
 replace H : ((turnspitlaw09_turned.f k t435 t436 a2).bind fun bt447 => ((tree_Insert.f bt447.1 bt447.2 (IntKind.u64.wrap (a0 + a2)) (IntKind.u64.wrap ((IntKind.u64.wrap (a0 + 7)) + a2)) ((l1.length : Int) % 24)).bind fun bt451 => ((tree_Delete.f t435 t436 a0 ((l1.length : Int) % 24)).bind fun bt457 => ((turnspitlaw09_turned.f k t435 t436 a2).bind fun bt463 => ((tree_Delete.f bt463.1 bt463.2 (IntKind.u64.wrap (a0 + a2)) ((l1.length : Int) % 24)).bind fun bt467 => (if t445 = bt451.2.2 then (if bt457.2.2 = bt467.2.2 then (if ((t445 == 0) != (bt457.2.2 == 0)) = true then ((turnspitlaw09_turned.f k t441 t442 a2).bind fun bt473 => ((turnspitref09_Same.f k bt473.1 bt473.2 bt451.1 bt451.2.1).bind fun t477 => (if t477 = true then ((turnspitlaw09_turned.f k bt457.1 bt457.2.1 a2).bind fun bt478 => ((turnspitref09_Same.f k bt478.1 bt478.2 bt467.1 bt467.2.1).bind fun t482 => (some t482))) else (some false)))) else (some false)) else (some false)) else (some false))))))) = some r := H
 have A7 := zA.mk A70; clear A70
 replace H := Option.bind_eq_some_iff.mp H
 obtain ⟨⟨t447, t448⟩, A80, H⟩ := H
 replace H : ((tree_Insert.f t447 t448 (IntKind.u64.wrap (a0 + a2)) (IntKind.u64.wrap ((IntKind.u64.wrap (a0 + 7)) + a2)) ((l1.length : Int) % 24)).bind fun bt451 => ((tree_Delete.f t435 t436 a0 ((l1.length : Int) % 24)).bind fun bt457 => ((turnspitlaw09_turned.f k t435 t436 a2).bind fun bt463 => ((tree_Delete.f bt463.1 bt463.2 (IntKind.u64.wrap (a0 + a2)) ((l1.length : Int) % 24)).bind fun bt467 => (if t445 = bt451.2.2 then (if bt457.2.2 = bt467.2.2 then (if ((t445 == 0) != (bt457.2.2 == 0)) = true then ((turnspitlaw09_turned.f k t441 t442 a2).bind fun bt473 => ((turnspitref09_Same.f k bt473.1 bt473.2 bt451.1 bt451.2.1).bind fun t477 => (if t477 = true then ((turnspitlaw09_turned.f k bt457.1 bt457.2.1 a2).bind fun bt478 => ((turnspitref09_Same.f k bt478.1 bt478.2 bt467.1 bt467.2.1).bind fun t482 => (some t482))) else (some false)))) else (some false)) else (some false)) else (some false)))))) = some r := H
 have A8 := zA.mk A80; clear A80
 replace H := Option.bind_eq_some_iff.mp H
 obtain ⟨⟨t451, t452, t455⟩, A90, H⟩ := H
 replace H : ((tree_Delete.f t435 t436 a0 ((l1.length : Int) % 24)).bind fun bt457 => ((turnspitlaw09_turned.f k t435 t436 a2).bind fun bt463 => ((tree_Delete.f bt463.1 bt463.2 (IntKind.u64.wrap (a0 + a2)) ((l1.length : Int) % 24)).bind fun bt467 => (if t445 = t455 then (if bt457.2.2 = bt467.2.2 then (if ((t445 == 0) != (bt457.2.2 == 0)) = true then ((turnspitlaw09_turned.f k t441 t442 a2).bind fun bt473 => ((turnspitref09_Same.f k bt473.1 bt473.2 t451 t452).bind fun t477 => (if t477 = true then ((turnspitlaw09_turned.f k bt457.1 bt457.2.1 a2).bind fun bt478 => ((turnspitref09_Same.f k bt478.1 bt478.2 bt467.1 bt467.2.1).bind fun t482 => (some t482))) else (some false)))) else (some false)) else (some false)) else (some false))))) = some r := H
 have A9 := zA.mk A90; clear A90
 replace H := Option.bind_eq_some_iff.mp H
 obtain ⟨⟨t457, t458, t461⟩, A100, H⟩ := H
 replace H : ((turnspitlaw09_turned.f k t435 t436 a2).bind fun bt463 => ((tree_Delete.f bt463.1 bt463.2 (IntKind.u64.wrap (a0 + a2)) ((l1.length : Int) % 24)).bind fun bt467 => (if t445 = t455 then (if t461 = bt467.2.2 then (if ((t445 == 0) != (t461 == 0)) = true then ((turnspitlaw09_turned.f k t441 t442 a2).bind fun bt473 => ((turnspitref09_Same.f k bt473.1 bt473.2 t451 t452).bind fun t477 => (if t477 = true then ((turnspitlaw09_turned.f k t457 t458 a2).bind fun bt478 => ((turnspitref09_Same.f k bt478.1 bt478.2 bt467.1 bt467.2.1).bind fun t482 => (some t482))) else (some false)))) else (some false)) else (some false)) else (some false)))) = some r := H
 have A10 := zA.mk A100; clear A100
 replace H := Option.bind_eq_some_iff.mp H
 obtain ⟨⟨t463, t464⟩, A110, H⟩ := H
 replace H : ((tree_Delete.f t463 t464 (IntKind.u64.wrap (a0 + a2)) ((l1.length : Int) % 24)).bind fun bt467 => (if t445 = t455 then (if t461 = bt467.2.2 then (if ((t445 == 0) != (t461 == 0)) = true then ((turnspitlaw09_turned.f k t441 t442 a2).bind fun bt473 => ((turnspitref09_Same.f k bt473.1 bt473.2 t451 t452).bind fun t477 => (if t477 = true then ((turnspitlaw09_turned.f k t457 t458 a2).bind fun bt478 => ((turnspitref09_Same.f k bt478.1 bt478.2 bt467.1 bt467.2.1).bind fun t482 => (some t482))) else (some false)))) else (some false)) else (some false)) else (some false))) = some r := H
 have A11 := zA.mk A110; clear A110
 replace H := Option.bind_eq_some_iff.mp H
 obtain ⟨⟨t467, t468, t471⟩, A120, H⟩ := H
 replace H : (if t445 = t455 then (if t461 = t471 then (if ((t445 == 0) != (t461 == 0)) = true then ((turnspitlaw09_turned.f k t441 t442 a2).bind fun bt473 => ((turnspitref09_Same.f k bt473.1 bt473.2 t451 t452).bind fun t477 => (if t477 = true then ((turnspitlaw09_turned.f k t457 t458 a2).bind fun bt478 => ((turnspitref09_Same.f k bt478.1 bt478.2 t467 t468).bind fun t482 => (some t482))) else (some false)))) else (some false)) else (some false)) else (some false)) = some r := H
 have A12 := zA.mk A120; clear A120
 by_cases c13 : t445 = t455
 rotate_left
 ·rw [if_neg c13] at H
  have c13b0 : (t445 == t455) = false := beq_eq_false_iff_ne.mpr c13
  have c13b1 : (t445 != t455) = true := bne_iff_ne.mpr c13
  rw [hr_] at H; simp at H
 rw [if_pos c13] at H
 have c13b0 : (t445 == t455) = true := beq_iff_eq.mpr c13
 have c13b1 : (t445 != t455) = false := bne_eq_false_iff_eq.mpr c13
 clear c13
 by_cases c14 : t461 = t471
 rotate_left
 ·rw [if_neg c14] at H
  have c14b0 : (t461 == t471) = false := beq_eq_false_iff_ne.mpr c14
  have c14b1 : (t461 != t471) = true := bne_iff_ne.mpr c14
  rw [hr_] at H; simp at H
 rw [if_pos c14] at H
 have c14b0 : (t461 == t471) = true := beq_iff_eq.mpr c14
 have c14b1 : (t461 != t471) = false := bne_eq_false_iff_eq.mpr c14
 clear c14
 by_cases c15 : ((t445 == 0) != (t461 == 0)) = true
 rotate_left
 ·rw [if_neg c15] at H
  have c15b0 : ((t445 == 0) != (t461 == 0)) = false := by simpa using c15
  (try (have c15b1 : decide ((t445 == 0) = (t461 == 0)) = true := by simpa using c15))
  (try (have c15b2 : ((t445 == 0) == (t461 == 0)) = true := by simpa using c15))
  clear c15
  rw [hr_] at H; simp at H
 rw [if_pos c15] at H
 have c15b0 : ((t445 == 0) != (t461 == 0)) = true := c15
 (try (have c15b1 : decide ((t445 == 0) = (t461 == 0)) = false := by simpa using c15))
 (try (have c15b2 : ((t445 == 0) == (t461 == 0)) = false := by simpa using c15))
 (try (have c15b3 : ¬ ((t445 == 0) = (t461 == 0)) := by simpa using c15))
 clear c15
 replace H := Option.bind_eq_some_iff.mp H
 obtain ⟨⟨t473, t474⟩, A160, H⟩ := H
 replace H : ((turnspitref09_Same.f k t473 t474 t451 t452).bind fun t477 => (if t477 = true then ((turnspitlaw09_turned.f k t457 t458 a2).bind fun bt478 => ((turnspitref09_Same.f k bt478.1 bt478.2 t467 t468).bind fun t482 => (some t482))) else (some false))) = some r := H
 have A16 := zA.mk A160; clear A160
 replace H := Option.bind_eq_some_iff.mp H
 obtain ⟨t477, A170, H⟩ := H
 replace H : (if t477 = true then ((turnspitlaw09_turned.f k t457 t458 a2).bind fun bt478 => ((turnspitref09_Same.f k bt478.1 bt478.2 t467 t468).bind fun t482 => (some t482))) else (some false)) = some r := H
 have A17 := zA.mk A170; clear A170
 by_cases c18 : t477 = true
 rotate_left
 ·replace c18 := Bool.eq_false_iff.mpr c18
  subst c18
  have H1 : (some false) = some r := by first | (rw [if_neg (show ¬ (false = true) by decide)] at H; exact H) | (rw [if_neg (fun h => h)] at H; exact H)
  clear H; have H := H1; clear H1
  rw [hr_] at H; simp at H
 subst c18
 have H1 : ((turnspitlaw09_turned.f k t457 t458 a2).bind fun bt478 => ((turnspitref09_Same.f k bt478.1 bt478.2 t467 t468).bind fun t482 => (some t482))) = some r := by first | (rw [if_pos rfl] at H; exact H) | (rw [if_pos trivial] at H; exact H)
 clear H; have H := H1; clear H1
 replace H := Option.bind_eq_some_iff.mp H
 obtain ⟨⟨t478, t479⟩, A190, H⟩ := H
 replace H : ((turnspitref09_Same.f k t478 t479 t467 t468).bind fun t482 => (some t482)) = some r := H
 have A19 := zA.mk A190; clear A190
 replace H := Option.bind_eq_some_iff.mp H
 obtain ⟨t482, A200, H⟩ := H
 replace H : (some t482) = some r := H
 have A20 := zA.mk A200; clear A200; obtain rfl := Option.some.inj H
 go_enter Tryd.func9, Tryd.ntmps9
 try go_wp2_with (first | ((with_reducible refine yY (f := 10) rfl ?_); refine qX (some 18) rfl rfl Tryd.func10 (by kernel_rfl) rfl #[] rfl (by (try simp only [List.map_toArray, List.map_cons, List.map_nil]); first | done | rfl | (simp only [List.length_drop, List.length_take]; rfl)) ?_; (with_reducible refine (turnspitlaw09_awake.calls  true _ (by first | exact hT | ((repeat (first | exact hT | apply Tm.Emp.drewN | apply Tm.Emp.drew)); done) | exact Tm.Emp.below hT (by repeat (first | (with_reducible first | exact HB.out | apply zH | apply zI | apply zJ | refine zB ?_ (zA.out (by assumption))) | exact HB.out))) A4.out).mono ?_); rintro e w21 ⟨rfl, hb⟩; refine ⟨_, rfl, ?_⟩; have n0_ := zA.mk (zT (by repeat (first | (with_reducible first | exact HB.out | apply zH | apply zI | apply zJ) | exact HB.out)) hb); clear HB; have HB := n0_; clear n0_; (try clear hb); (try clear hb2); (try clear hk); (try clear hi)) | ((with_reducible refine yY (f := 27) rfl ?_); refine qX (some 23) rfl rfl Tryd.func27 (by kernel_rfl) rfl #[.int .u64 a0, .slice A1 l1.length c1] rfl (by (try simp only [List.map_toArray, List.map_cons, List.map_nil]); first | done | rfl | (simp only [List.length_drop, List.length_take]; rfl)) ?_; (with_reducible refine (turnspitlaw09_Made.calls k a0 _ _ l1 t435 t436 _ ?side1 ?side2 (by first | exact hT | ((repeat (first | exact hT | apply Tm.Emp.drewN | apply Tm.Emp.drew)); done) | exact Tm.Emp.below hT (by repeat (first | (with_reducible first | exact HB.out | apply zH | apply zI | apply zJ | refine zB ?_ (zA.out (by assumption))) | exact HB.out))) A6.out).mono ?_); (case side1 => repeat (first | exact (Kd.zY HR1.out HB.out) | (with_reducible refine Kd.qR ?_ _) | (with_reducible refine Kd.qM ?_ _) | (with_reducible refine Kd.jH ?_))); (case side2 => exact HC1.out); rintro e w22 ⟨v437, rfl, ho0, hb⟩; refine ⟨_, rfl, ?_⟩; have n0_ := zA.mk (Kd.qB ho0 (zW (by repeat (first | (with_reducible first | exact HB.out | apply zH | apply zI | apply zJ) | exact HB.out)))); have n1_ := zA.mk (zT (by repeat (first | (with_reducible first | exact HB.out | apply zH | apply zI | apply zJ) | exact HB.out)) hb); clear HB; have HO438 := n0_; have HB := n1_; clear n0_ n1_; (try clear hb); (try clear hb2); (try clear hk); (try clear hi); (try clear ho0)) | ((with_reducible refine xJ (N := 8) rfl ?_); refine xC ?hg (N := 8) ?hd (cs := #[.int .i64 0, .slice none 0 0]) (t := 24) ?hr ?_; (case hd => rfl); (case hg => rfl); (case hr => first | (go_simp; done) | (go_simp; rfl)); intro gb439 hg w23 hbox hb; have n0_ := zA.mk (Kd.yG (by (with_reducible repeat (first | apply Kd.zO | apply Kd.zM | apply Kd.zS)); exact HO438.out) hb); have n1_ := zA.mk (zT (by repeat (first | (with_reducible first | exact HB.out | apply zH | apply zI | apply zJ) | exact HB.out)) hb); have n2_ := zA.mk (hbox); have n3_ := zA.mk ((by rw [hg]; exact (zW (by repeat (first | (with_reducible first | exact HB.out | apply zH | apply zI | apply zJ) | exact HB.out))) : w.heap.size ≤ gb439)); have n4_ := zA.mk ((by rw [hg]; exact (zW (by repeat (first | (with_reducible first | exact HB.out | apply zH | apply zI | apply zJ) | exact HB.out))) : w.heap.size ≤ gb439)); clear HO438 HB; have HO438 := n0_; have HB := n1_; have BK439 := n2_; have GW439 := n3_; have GE439 := n4_; clear n0_ n1_ n2_ n3_ n4_; clear hb hbox hg; have hcz24_0 : w23.cell? ⟨gb439, 0, none⟩ = some (.int .i64 0) := (zF BK439.out 0).trans rfl; have hcz24_1 : w23.cell? ⟨gb439, 1, none⟩ = some (.slice none 0 0) := (zF BK439.out 1).trans rfl; have hfz24_0 := zL BK439.out 0; have hfz24_1 := zL BK439.out 1; obtain ⟨Ao25, co25, eo25⟩ := Kd.xV HO438.out; subst eo25) | ((with_reducible refine xJ (N := 9) rfl ?_); refine xC ?hg (N := 9) ?hd (cs := #[.int .u64 0, .int .i64 0]) (t := 27) ?hr ?_; (case hd => rfl); (case hg => rfl); (case hr => first | (go_simp; done) | (go_simp; rfl)); intro gb440 hg w26 hbox hb; have n0_ := zA.mk (Kd.yG (by (with_reducible repeat (first | apply Kd.zO | apply Kd.zM | apply Kd.zS)); exact (Kd.yF (Kd.yH (p := ⟨gb439, 1, none⟩) (Kd.yH (p := ⟨gb439, 0, none⟩) (Kd.yR HO438.out BK439.out (by decide)) (fun _ hk => hk.2) (.int .i64 t435)) (fun _ hk => hk.2) (.slice Ao25 t436.length co25)) (fun _ h_ => h_.1))) hb); have n1_ := zA.mk (zK (g := gb439) (o := .cells #[.int .i64 t435, .slice Ao25 t436.length co25] 24 (0, 0)) (by (with_reducible repeat (first | apply zC | apply zG | apply zD)); refine yK (cs := #[.int .i64 t435, .slice none 0 0]) ?_ 1 _ rfl; (with_reducible repeat (first | apply zC | apply zG | apply zD)); refine yK (cs := #[.int .i64 0, .slice none 0 0]) ?_ 0 _ rfl; (with_reducible repeat (first | apply zC | apply zG | apply zD)); exact BK439.out) hb); have n2_ := zA.mk (zT (by repeat (first | (with_reducible first | exact HB.out | apply zH | apply zI | apply zJ | refine zB ?_ GE439.out) | exact HB.out)) hb); have n3_ := zA.mk (hbox); have n4_ := zA.mk ((by rw [hg]; exact (zW (by repeat (first | (with_reducible first | exact HB.out | apply zH | apply zI | apply zJ | refine zB ?_ GE439.out) | exact HB.out))) : w.heap.size ≤ gb440)); have n5_ := zA.mk ((by rw [hg]; exact (zW (by repeat (first | (with_reducible first | exact HB.out | apply zH | apply zI | apply zJ | refine zB ?_ GE439.out) | exact HB.out))) : w.heap.size ≤ gb440)); have n6_ := zA.mk ((by rw [hg]; exact Nat.ne_of_lt (yA (g := gb439) (o := .cells #[.int .i64 t435, .slice Ao25 t436.length co25] 24 (0, 0)) (by (with_reducible repeat (first | apply zC | apply zG | apply zD)); refine yK (cs := #[.int .i64 t435, .slice none 0 0]) ?_ 1 _ rfl; (with_reducible repeat (first | apply zC | apply zG | apply zD)); refine yK (cs := #[.int .i64 0, .slice none 0 0]) ?_ 0 _ rfl; (with_reducible repeat (first | apply zC | apply zG | apply zD)); exact BK439.out)) : gb439 ≠ gb440)); have n7_ := zA.mk ((by rw [hg]; exact Nat.ne_of_gt (yA (g := gb439) (o := .cells #[.int .i64 t435, .slice Ao25 t436.length co25] 24 (0, 0)) (by (with_reducible repeat (first | apply zC | apply zG | apply zD)); refine yK (cs := #[.int .i64 t435, .slice none 0 0]) ?_ 1 _ rfl; (with_reducible repeat (first | apply zC | apply zG | apply zD)); refine yK (cs := #[.int .i64 0, .slice none 0 0]) ?_ 0 _ rfl; (with_reducible repeat (first | apply zC | apply zG | apply zD)); exact BK439.out)) : gb440 ≠ gb439)); clear HO438 BK439 HB; have HO438 := n0_; have BK439 := n1_; have HB := n2_; have BK440 := n3_; have GW440 := n4_; have GE440 := n5_; have NB439_440 := n6_; have NB440_439 := n7_; clear n0_ n1_ n2_ n3_ n4_ n5_ n6_ n7_; clear hb hbox hg; have hnb27 := NB440_439.out; have hnc27 := NB439_440.out; have hcz28_0 : w26.cell? ⟨gb440, 0, none⟩ = some (.int .u64 0) := (zF BK440.out 0).trans rfl; have hcz28_1 : w26.cell? ⟨gb440, 1, none⟩ = some (.int .i64 0) := (zF BK440.out 1).trans rfl; have hfz28_0 := zL BK440.out 0; have hfz28_1 := zL BK440.out 1; have hcz29_0 : w26.cell? ⟨gb439, 0, none⟩ = some (.int .i64 t435) := (zF BK439.out 0).trans rfl; have hcz29_1 : w26.cell? ⟨gb439, 1, none⟩ = some (.slice Ao25 t436.length co25) := (zF BK439.out 1).trans rfl; have hfz29_0 := zL BK439.out 0; have hfz29_1 := zL BK439.out 1) | ((with_reducible refine yY (f := 11) rfl ?_); refine qX (some 34) rfl rfl Tryd.func11 (by kernel_rfl) rfl #[.agg #[.int .i64 t435, .slice Ao25 t436.length co25], .int .u64 a0, .agg #[.int .u64 (IntKind.u64.wrap (a0 + 7)), .int .i64 ((l1.length : Int) % 24)]] rfl (by (try simp only [List.map_toArray, List.map_cons, List.map_nil]); first | done | rfl | (simp only [List.length_drop, List.length_take]; rfl)) ?_; (with_reducible refine (tree_Insert.calls t435 _ _ t436 a0 (IntKind.u64.wrap (a0 + 7)) ((l1.length : Int) % 24) t441 t442 t445 _ ?side1 ?side2 (by first | exact hT | ((repeat (first | exact hT | apply Tm.Emp.drewN | apply Tm.Emp.drew)); done) | exact Tm.Emp.below hT (by repeat (first | (with_reducible first | exact HB.out | apply zH | apply zI | apply zJ | refine zB ?_ (zA.out (by assumption))) | exact HB.out))) A7.out).mono ?_); (case side1 => refine (Kd.yN (e := 57) (base := w.heap.size) (ok := fun k_ => True) (n := t436.length) (c := co25) ?_).2.2; exact (by (with_reducible repeat (first | apply Kd.zO | apply Kd.zM | apply Kd.zS)); exact (Kd.yF (Kd.yH (p := ⟨gb440, 1, none⟩) (Kd.yH (p := ⟨gb440, 0, none⟩) (Kd.yR HO438.out BK440.out (by decide)) (fun _ hk => hk.2) (.int .u64 (IntKind.u64.wrap (a0 + 7)))) (fun _ hk => hk.2) (.int .i64 ((l1.length : Int) % 24))) (fun _ h_ => h_.1)))); (case side2 => exact (Kd.yN HO438.out).2.1); rintro e w30 ⟨v443, rfl, ho0, hb⟩; refine ⟨_, rfl, ?_⟩; have n0_ := zA.mk (Kd.yD (by (with_reducible repeat (first | apply Kd.zO | apply Kd.zM | apply Kd.zS)); exact (Kd.yF (Kd.yH (p := ⟨gb440, 1, none⟩) (Kd.yH (p := ⟨gb440, 0, none⟩) (Kd.yR HO438.out BK440.out (by decide)) (fun _ hk => hk.2) (.int .u64 (IntKind.u64.wrap (a0 + 7)))) (fun _ hk => hk.2) (.int .i64 ((l1.length : Int) % 24))) (fun _ h_ => h_.1))) (Kd.yQ ho0) hb); have n1_ := zA.mk (Kd.qB (Kd.yP ho0 (Kd.R_lt (by (with_reducible repeat (first | apply Kd.zO | apply Kd.zM | apply Kd.zS)); exact (Kd.yF (Kd.yH (p := ⟨gb440, 1, none⟩) (Kd.yH (p := ⟨gb440, 0, none⟩) (Kd.yR HO438.out BK440.out (by decide)) (fun _ hk => hk.2) (.int .u64 (IntKind.u64.wrap (a0 + 7)))) (fun _ hk => hk.2) (.int .i64 ((l1.length : Int) % 24))) (fun _ h_ => h_.1))))) (zW (by repeat (first | (with_reducible first | exact HB.out | apply zH | apply zI | apply zJ | refine zB ?_ GE439.out | refine zB ?_ GE440.out) | exact HB.out)))); have n2_ := zA.mk (zK (g := gb439) (o := .cells #[.int .i64 t435, .slice Ao25 t436.length co25] 24 (0, 0)) (by (with_reducible repeat (first | apply zC | apply zG | apply zD)); refine zX ?_ NB439_440.out _; (with_reducible repeat (first | apply zC | apply zG | apply zD)); refine zX ?_ NB439_440.out _; (with_reducible repeat (first | apply zC | apply zG | apply zD)); exact BK439.out) hb); have n3_ := zA.mk (zK (g := gb440) (o := .cells #[.int .u64 (IntKind.u64.wrap (a0 + 7)), .int .i64 ((l1.length : Int) % 24)] 27 (0, 0)) (by (with_reducible repeat (first | apply zC | apply zG | apply zD)); refine yK (cs := #[.int .u64 (IntKind.u64.wrap (a0 + 7)), .int .i64 0]) ?_ 1 _ rfl; (with_reducible repeat (first | apply zC | apply zG | apply zD)); refine yK (cs := #[.int .u64 0, .int .i64 0]) ?_ 0 _ rfl; (with_reducible repeat (first | apply zC | apply zG | apply zD)); exact BK440.out) hb); have n4_ := zA.mk (zT (by repeat (first | (with_reducible first | exact HB.out | apply zH | apply zI | apply zJ | refine zB ?_ GE439.out | refine zB ?_ GE440.out) | exact HB.out)) hb); clear HO438 BK439 BK440 HB; have HO438 := n0_; have HO444 := n1_; have BK439 := n2_; have BK440 := n3_; have HB := n4_; clear n0_ n1_ n2_ n3_ n4_; (try clear hb); (try clear hb2); (try clear hk); (try clear hi); (try clear ho0)) | ((with_reducible refine xJ (N := 10) rfl ?_); refine xC ?hg (N := 10) ?hd (cs := #[.int .i64 0, .slice none 0 0]) (t := 24) ?hr ?_; (case hd => rfl); (case hg => rfl); (case hr => first | (go_simp; done) | (go_simp; rfl)); intro gb446 hg w31 hbox hb; have n0_ := zA.mk (Kd.yG (by (with_reducible repeat (first | apply Kd.zO | apply Kd.zM | apply Kd.zS)); exact HO438.out) hb); have n1_ := zA.mk (Kd.yG (by (with_reducible repeat (first | apply Kd.zO | apply Kd.zM | apply Kd.zS)); exact HO444.out) hb); have n2_ := zA.mk (zK (g := gb439) (o := .cells #[.int .i64 t435, .slice Ao25 t436.length co25] 24 (0, 0)) (by (with_reducible repeat (first | apply zC | apply zG | apply zD)); exact BK439.out) hb); have n3_ := zA.mk (zK (g := gb440) (o := .cells #[.int .u64 (IntKind.u64.wrap (a0 + 7)), .int .i64 ((l1.length : Int) % 24)] 27 (0, 0)) (by (with_reducible repeat (first | apply zC | apply zG | apply zD)); exact BK440.out) hb); have n4_ := zA.mk (zT (by repeat (first | (with_reducible first | exact HB.out | apply zH | apply zI | apply zJ | refine zB ?_ GE439.out | refine zB ?_ GE440.out) | exact HB.out)) hb); have n5_ := zA.mk (hbox); have n6_ := zA.mk ((by rw [hg]; exact (zW (by repeat (first | (with_reducible first | exact HB.out | apply zH | apply zI | apply zJ | refine zB ?_ GE439.out | refine zB ?_ GE440.out) | exact HB.out))) : w.heap.size ≤ gb446)); have n7_ := zA.mk ((by rw [hg]; exact (zW (by repeat (first | (with_reducible first | exact HB.out | apply zH | apply zI | apply zJ | refine zB ?_ GE439.out | refine zB ?_ GE440.out) | exact HB.out))) : w.heap.size ≤ gb446)); have n8_ := zA.mk ((by rw [hg]; exact Nat.ne_of_lt (yA (g := gb439) (o := .cells #[.int .i64 t435, .slice Ao25 t436.length co25] 24 (0, 0)) (by (with_reducible repeat (first | apply zC | apply zG | apply zD)); exact BK439.out)) : gb439 ≠ gb446)); have n9_ := zA.mk ((by rw [hg]; exact Nat.ne_of_gt (yA (g := gb439) (o := .cells #[.int .i64 t435, .slice Ao25 t436.length co25] 24 (0, 0)) (by (with_reducible repeat (first | apply zC | apply zG | apply zD)); exact BK439.out)) : gb446 ≠ gb439)); have n10_ := zA.mk ((by rw [hg]; exact Nat.ne_of_lt (yA (g := gb440) (o := .cells #[.int .u64 (IntKind.u64.wrap (a0 + 7)), .int .i64 ((l1.length : Int) % 24)] 27 (0, 0)) (by (with_reducible repeat (first | apply zC | apply zG | apply zD)); exact BK440.out)) : gb440 ≠ gb446)); have n11_ := zA.mk ((by rw [hg]; exact Nat.ne_of_gt (yA (g := gb440) (o := .cells #[.int .u64 (IntKind.u64.wrap (a0 + 7)), .int .i64 ((l1.length : Int) % 24)] 27 (0, 0)) (by (with_reducible repeat (first | apply zC | apply zG | apply zD)); exact BK440.out)) : gb446 ≠ gb440)); clear HO438 HO444 BK439 BK440 HB; have HO438 := n0_; have HO444 := n1_; have BK439 := n2_; have BK440 := n3_; have HB := n4_; have BK446 := n5_; have GW446 := n6_; have GE446 := n7_; have NB439_446 := n8_; have NB446_439 := n9_; have NB440_446 := n10_; have NB446_440 := n11_; clear n0_ n1_ n2_ n3_ n4_ n5_ n6_ n7_ n8_ n9_ n10_ n11_; clear hb hbox hg; have hnb32 := NB446_439.out; have hnc32 := NB439_446.out; have hnb33 := NB446_440.out; have hnc33 := NB440_446.out; have hcz34_0 : w31.cell? ⟨gb446, 0, none⟩ = some (.int .i64 0) := (zF BK446.out 0).trans rfl; have hcz34_1 : w31.cell? ⟨gb446, 1, none⟩ = some (.slice none 0 0) := (zF BK446.out 1).trans rfl; have hfz34_0 := zL BK446.out 0; have hfz34_1 := zL BK446.out 1; obtain ⟨Ao35, co35, eo35⟩ := Kd.xV HO444.out; subst eo35))
 have n0_ : zA (Kd.R k57 57 ((w31.setCell ⟨gb446, 0, none⟩ (.int .i64 t441)).setCell ⟨gb446, 1, none⟩ (.slice Ao35 t442.length co35)) w.heap.size (fun k_ => some k_ ≠ (.slice Ao35 t442.length co35 : Value).ownBlock) (.slice Ao25 t436.length co25) t436) := ⟨by (with_reducible repeat (first | apply Kd.zO | apply Kd.zM | apply Kd.zS)); exact Kd.yF (Kd.yH (p := ⟨gb446, 1, none⟩) (Kd.yH (p := ⟨gb446, 0, none⟩) (Kd.yR HO438.out BK446.out (by decide)) (fun _ hk => hk.2) (.int .i64 t441)) (fun _ hk => hk.2) (.slice Ao35 t442.length co35)) (fun _ hk => hk.1.2)⟩
 have n1_ : zA (Kd.R k57 57 ((w31.setCell ⟨gb446, 0, none⟩ (.int .i64 t441)).setCell ⟨gb446, 1, none⟩ (.slice Ao35 t442.length co35)) w.heap.size (fun k_ => some k_ ≠ (.slice Ao25 t436.length co25 : Value).ownBlock) (.slice Ao35 t442.length co35) t442) := ⟨by (with_reducible repeat (first | apply Kd.zO | apply Kd.zM | apply Kd.zS)); exact Kd.yF (Kd.yH (p := ⟨gb446, 1, none⟩) (Kd.yH (p := ⟨gb446, 0, none⟩) (Kd.yR HO444.out BK446.out (by decide)) (fun _ hk => hk.2) (.int .i64 t441)) (fun _ hk => hk.2) (.slice Ao35 t442.length co35)) (fun _ hk => hk.1.2)⟩
 have n2_ : zA (((w31.setCell ⟨gb446, 0, none⟩ (.int .i64 t441)).setCell ⟨gb446, 1, none⟩ (.slice Ao35 t442.length co35)).heap[gb439]? = some (.cells #[.int .i64 t435, .slice Ao25 t436.length co25] 24 (0, 0))) := ⟨by (with_reducible repeat (first | apply zC | apply zG | apply zD)); refine zX ?_ NB439_446.out _; (with_reducible repeat (first | apply zC | apply zG | apply zD)); refine zX ?_ NB439_446.out _; (with_reducible repeat (first | apply zC | apply zG | apply zD)); exact BK439.out⟩
 have n3_ : zA (((w31.setCell ⟨gb446, 0, none⟩ (.int .i64 t441)).setCell ⟨gb446, 1, none⟩ (.slice Ao35 t442.length co35)).heap[gb440]? = some (.cells #[.int .u64 (IntKind.u64.wrap (a0 + 7)), .int .i64 ((l1.length : Int) % 24)] 27 (0, 0))) := ⟨by (with_reducible repeat (first | apply zC | apply zG | apply zD)); refine zX ?_ NB440_446.out _; (with_reducible repeat (first | apply zC | apply zG | apply zD)); refine zX ?_ NB440_446.out _; (with_reducible repeat (first | apply zC | apply zG | apply zD)); exact BK440.out⟩
 have n4_ : zA (((w31.setCell ⟨gb446, 0, none⟩ (.int .i64 t441)).setCell ⟨gb446, 1, none⟩ (.slice Ao35 t442.length co35)).heap[gb446]? = some (.cells #[.int .i64 t441, .slice Ao35 t442.length co35] 24 (0, 0))) := ⟨by (with_reducible repeat (first | apply zC | apply zG | apply zD)); refine yK (cs := #[.int .i64 t441, .slice none 0 0]) ?_ 1 _ rfl; (with_reducible repeat (first | apply zC | apply zG | apply zD)); refine yK (cs := #[.int .i64 0, .slice none 0 0]) ?_ 0 _ rfl; (with_reducible repeat (first | apply zC | apply zG | apply zD)); exact BK446.out⟩
 have n5_ : zA (Below w.heap.size w ((w31.setCell ⟨gb446, 0, none⟩ (.int .i64 t441)).setCell ⟨gb446, 1, none⟩ (.slice Ao35 t442.length co35))) := ⟨by repeat (first | (with_reducible first | exact HB.out | apply zH | apply zI | apply zJ | refine zB ?_ GE439.out | refine zB ?_ GE440.out | refine zB ?_ GE446.out) | exact HB.out)⟩
 (try clear HO438)
 (try clear HO444)
 (try clear BK439)
 (try clear BK440)
 (try clear BK446)
 (try clear HB)
 generalize ((w31.setCell ⟨gb446, 0, none⟩ (.int .i64 t441)).setCell ⟨gb446, 1, none⟩ (.slice Ao35 t442.length co35)) = w36 at n0_ n1_ n2_ n3_ n4_ n5_ ⊢
 have HO438 := n0_; have HO444 := n1_; have BK439 := n2_; have BK440 := n3_; have BK446 := n4_; have HB := n5_; clear n0_ n1_ n2_ n3_ n4_ n5_
 have n0_ := zA.mk (Kd.zS HO438.out)
 have n1_ := zA.mk (Kd.zS HO444.out)
 have n2_ := zA.mk (zG BK439.out)
 have n3_ := zA.mk (zG BK440.out)
 have n4_ := zA.mk (zG BK446.out)
 have n5_ := zA.mk (zJ HB.out)
 clear HO438 HO444 BK439 BK440 BK446 HB; have HO438 := n0_; have HO444 := n1_; have BK439 := n2_; have BK440 := n3_; have BK446 := n4_; have HB := n5_; clear n0_ n1_ n2_ n3_ n4_ n5_
 refine jQ (n := 20) (S := fun w' => w'.cell? ⟨gb439, 0, none⟩ = some (.int .i64 t435) ∧ w'.cell? ⟨gb439, 1, none⟩ = some (.slice Ao25 t436.length co25) ∧ w'.cell? ⟨gb440, 0, none⟩ = some (.int .u64 (IntKind.u64.wrap (a0 + 7))) ∧ w'.cell? ⟨gb440, 1, none⟩ = some (.int .i64 ((l1.length : Int) % 24))) (ds := []) #[false, false, false, false, false, false, false, false, false, false, false, false, false, false, false, false, false, false, false, false] (by kernel_rfl) rfl rfl ⟨(zF BK439.out 0).trans rfl, (zF BK439.out 1).trans rfl, (zF BK440.out 0).trans rfl, (zF BK440.out 1).trans rfl⟩ (fun hHeld => ?_); refine wK turnspitlaw09_TreeTurns.tab7 turnspitlaw09_TreeTurns.bits7 (fun HT_ HW_ => ?_)
 generalize w36.drew = w37 at HO438 HO444 BK439 BK440 BK446 HB hHeld ⊢
 refine yB (i := 1) (N := some 39) (v := ?_) (a' := ?_) #[false, true, false, false, false, false, false, false, false, false, false, false, false, false, false, false, false, false, false, false] rfl rfl (yJ HT_.out (by kernel_rfl)) (fun _ _ _ h => h) (Or.inl ⟨by rfl, ?_⟩) ?_ ?_
 rotate_left
 ·intro w'
  go_simp
  with_reducible rfl
 rotate_left
 ·simp only [Act.put, List.setIfInBounds_toArray, List.set_cons_zero, List.set_cons_succ, zU, zV]
  rfl
 refine yB (i := 3) (N := some 41) (v := ?_) (a' := ?_) #[false, true, false, true, false, false, false, false, false, false, false, false, false, false, false, false, false, false, false, false] rfl rfl (yJ HT_.out (by kernel_rfl)) (fun _ _ _ h => h) (Or.inl ⟨by rfl, ?_⟩) ?_ ?_
 rotate_left
 ·intro w'
  go_simp
  with_reducible rfl
 rotate_left
 ·simp only [Act.put, List.setIfInBounds_toArray, List.set_cons_zero, List.set_cons_succ, zU, zV]
  rfl
 refine yB (i := 4) (N := some 42) (v := ?_) (a' := ?_) #[false, true, false, true, true, false, false, false, false, false, false, false, false, false, false, false, false, false, false, false] rfl rfl (yJ HT_.out (by kernel_rfl)) (fun _ _ _ h => h) (Or.inl ⟨by rfl, ?_⟩) ?_ ?_
 rotate_left
 ·intro w'
  go_simp
  with_reducible rfl
 rotate_left
 ·simp only [Act.put, List.setIfInBounds_toArray, List.set_cons_zero, List.set_cons_succ, zU, zV]
  rfl
 refine yB (i := 5) (N := some 43) (v := ?_) (a' := ?_) #[false, true, false, true, true, true, false, false, false, false, false, false, false, false, false, false, false, false, false, false] rfl rfl (yJ HT_.out (by kernel_rfl)) (fun _ _ _ h => h) (Or.inl ⟨by rfl, ?_⟩) ?_ ?_
 rotate_left
 ·intro w'
  go_simp
  with_reducible rfl
 rotate_left
 ·simp only [Act.put, List.setIfInBounds_toArray, List.set_cons_zero, List.set_cons_succ, zU, zV]
  rfl
 refine yB (i := 6) (N := some 44) (v := ?_) (a' := ?_) #[false, true, false, true, true, true, true, false, false, false, false, false, false, false, false, false, false, false, false, false] rfl rfl (yJ HT_.out (by kernel_rfl)) (fun _ _ _ h => h) (Or.inl ⟨by rfl, ?_⟩) ?_ ?_
 rotate_left
 ·intro w'
  go_simp
  with_reducible rfl
 rotate_left
 ·simp only [Act.put, List.setIfInBounds_toArray, List.set_cons_zero, List.set_cons_succ, zU, zV]
  rfl
 refine yB (i := 8) (N := some 46) (v := ?_) (a' := ?_) #[false, true, false, true, true, true, true, false, true, false, false, false, false, false, false, false, false, false, false, false] rfl rfl (yJ HT_.out (by kernel_rfl)) (fun _ _ _ h => h) (Or.inl ⟨by rfl, ?_⟩) ?_ ?_
 rotate_left
 ·intro w'
  go_simp
  with_reducible rfl
 rotate_left
 ·simp only [Act.put, List.setIfInBounds_toArray, List.set_cons_zero, List.set_cons_succ, zU, zV]
  rfl
 refine yB (i := 10) (N := some 48) (v := ?_) (a' := ?_) #[false, true, false, true, true, true, true, false, true, false, true, false, false, false, false, false, false, false, false, false] rfl rfl (yJ HT_.out (by kernel_rfl)) (fun _ _ _ h => h) (Or.inl ⟨by rfl, ?_⟩) ?_ ?_
 rotate_left
 ·intro w'
  go_simp
  with_reducible rfl
 rotate_left
 ·simp only [Act.put, List.setIfInBounds_toArray, List.set_cons_zero, List.set_cons_succ, zU, zV]
  rfl
 refine x9 (i := 0) (N := some 38) (v := ?_) (a' := ?_) #[true, true, false, true, true, true, true, false, true, false, true, false, false, false, false, false, false, false, false, false] rfl rfl (jB HT_.out HW_.out (by kernel_rfl)) (fun _ _ _ h => h) (Or.inl ⟨by rfl, ?_⟩) hHeld ?_ ?_
 rotate_left
 ·rintro w' ⟨s0, s1, s2, s3⟩
  go_simp
  with_reducible rfl
 rotate_left
 ·simp only [Act.put, List.setIfInBounds_toArray, List.set_cons_zero, List.set_cons_succ, zU, zV]
  rfl
 refine x9 (i := 7) (N := some 45) (v := ?_) (a' := ?_) #[true, true, false, true, true, true, true, true, true, false, true, false, false, false, false, false, false, false, false, false] rfl rfl (jB HT_.out HW_.out (by kernel_rfl)) (fun _ _ _ h => h) (Or.inl ⟨by rfl, ?_⟩) hHeld ?_ ?_
 rotate_left
 ·rintro w' ⟨s0, s1, s2, s3⟩
  go_simp
  with_reducible rfl
 rotate_left
 ·simp only [Act.put, List.setIfInBounds_toArray, List.set_cons_zero, List.set_cons_succ, zU, zV]
  rfl
 refine yB (i := 9) (N := some 47) (v := ?_) (a' := ?_) #[true, true, false, true, true, true, true, true, true, true, true, false, false, false, false, false, false, false, false, false] rfl rfl (yJ HT_.out (by kernel_rfl)) (fun _ _ _ h => h) (Or.inl ⟨by rfl, ?_⟩) ?_ ?_
 rotate_left
 ·intro w'
  go_simp
  with_reducible rfl
 rotate_left
 ·simp only [Act.put, List.setIfInBounds_toArray, List.set_cons_zero, List.set_cons_succ, zU, zV]
  rfl
 refine x9 (i := 11) (N := some 49) (v := ?_) (a' := ?_) #[true, true, false, true, true, true, true, true, true, true, true, true, false, false, false, false, false, false, false, false] rfl rfl (jB HT_.out HW_.out (by kernel_rfl)) (fun _ _ _ h => h) (Or.inl ⟨by rfl, ?_⟩) hHeld ?_ ?_
 rotate_left
 ·rintro w' ⟨s0, s1, s2, s3⟩
  go_simp
  with_reducible rfl
 rotate_left
 ·simp only [Act.put, List.setIfInBounds_toArray, List.set_cons_zero, List.set_cons_succ, zU, zV]
  rfl
 refine yB (i := 12) (N := some 50) (v := ?_) (a' := ?_) #[true, true, false, true, true, true, true, true, true, true, true, true, true, false, false, false, false, false, false, false] rfl rfl (yJ HT_.out (by kernel_rfl)) (fun _ _ _ h => h) (Or.inl ⟨by rfl, ?_⟩) ?_ ?_
 rotate_left
 ·intro w'
  go_simp
  with_reducible rfl
 rotate_left
 ·simp only [Act.put, List.setIfInBounds_toArray, List.set_cons_zero, List.set_cons_succ, zU, zV]
  rfl
 refine join_ (σ := Value × Value × Nat) 2 #[true, true, true, true, true, true, true, true, true, true, true, true, true, true, true, true, true, true, false, false] (fun s_ => [(40, .agg #[.int .i64 t447, s_.1]), (51, .tuple #[.agg #[.int .i64 t451, s_.2.1], .int .i64 t455]), (12, .pointer (some ⟨s_.2.2, 0, none⟩)), (37, .tuple #[.agg #[.int .i64 t451, s_.2.1], .int .i64 t455]), (52, .agg #[.int .i64 t451, s_.2.1]), (53, .int .i64 t455)]) (fun s_ w' => (w'.cell? ⟨gb439, 0, none⟩ = some (.int .i64 t435) ∧ w'.cell? ⟨gb439, 1, none⟩ = some (.slice Ao25 t436.length co25) ∧ w'.cell? ⟨gb440, 0, none⟩ = some (.int .u64 (IntKind.u64.wrap (a0 + 7))) ∧ w'.cell? ⟨gb440, 1, none⟩ = some (.int .i64 ((l1.length : Int) % 24))) ∧ (Kd.R k57 57 w' w.heap.size (fun k_ => some k_ ≠ (.slice Ao35 t442.length co35 : Value).ownBlock ∧ some k_ ≠ (s_.1 : Value).ownBlock ∧ some k_ ≠ (s_.2.1 : Value).ownBlock) (.slice Ao25 t436.length co25) t436) ∧ (Kd.R k57 57 w' w.heap.size (fun k_ => some k_ ≠ (.slice Ao25 t436.length co25 : Value).ownBlock ∧ some k_ ≠ (s_.1 : Value).ownBlock ∧ some k_ ≠ (s_.2.1 : Value).ownBlock) (.slice Ao35 t442.length co35) t442) ∧ (Kd.R k57 57 w' w.heap.size (fun k_ => some k_ ≠ (.slice Ao25 t436.length co25 : Value).ownBlock ∧ some k_ ≠ (.slice Ao35 t442.length co35 : Value).ownBlock ∧ some k_ ≠ (s_.2.1 : Value).ownBlock) s_.1 t448) ∧ (Kd.R k57 57 w' w.heap.size (fun k_ => some k_ ≠ (.slice Ao25 t436.length co25 : Value).ownBlock ∧ some k_ ≠ (.slice Ao35 t442.length co35 : Value).ownBlock ∧ some k_ ≠ (s_.1 : Value).ownBlock) s_.2.1 t452) ∧ (w'.heap[gb439]? = some (.cells #[.int .i64 t435, .slice Ao25 t436.length co25] 24 (0, 0))) ∧ (w'.heap[gb440]? = some (.cells #[.int .u64 (IntKind.u64.wrap (a0 + 7)), .int .i64 ((l1.length : Int) % 24)] 27 (0, 0))) ∧ (w'.heap[gb446]? = some (.cells #[.int .i64 t441, .slice Ao35 t442.length co35] 24 (0, 0))) ∧ (w'.heap[s_.2.2]? = some (.cells #[.int .i64 0, .slice none 0 0] 24 (0, 0))) ∧ (w.heap.size ≤ s_.2.2) ∧ (w.heap.size ≤ s_.2.2) ∧ (gb439 ≠ s_.2.2) ∧ (s_.2.2 ≠ gb439) ∧ (gb440 ≠ s_.2.2) ∧ (s_.2.2 ≠ gb440) ∧ (gb446 ≠ s_.2.2) ∧ (s_.2.2 ≠ gb446) ∧ (Below w.heap.size w w')) ?_ ?_
 rotate_left
 ·intro hCont
  refine two_ (i := 2) (j := 17) (Ni := some 40) (Nj := some 12) #[true, true, true, true, true, true, true, true, true, true, true, true, true, false, false, false, false, false, false, false] #[true, true, false, true, true, true, true, true, true, true, true, true, true, false, false, false, false, true, false, false] rfl rfl rfl rfl (two_of HT_.out (by kernel_rfl)) (by decide) (by decide) (fun K hK => ?_) (fun K hK => ?_)
  ·skip
   refine qF Tryd.func31 (by kernel_rfl) rfl #[.agg #[.int .i64 t435, .slice Ao25 t436.length co25], .int .u64 a2] (by rfl) rfl rfl (by (try simp only [List.map_toArray, List.map_cons, List.map_nil]); first | done | rfl | (simp only [List.length_drop, List.length_take]; rfl)) ?_
   with_reducible refine (turnspitlaw09_turned.calls k t435 _ _ t436 a2 t447 t448 _ ?side1 ?side2 (by first | exact hT | ((repeat (first | exact hT | apply Tm.Emp.drewN | apply Tm.Emp.drew)); done) | exact Tm.Emp.below hT (by repeat (first | (with_reducible first | exact HB.out | apply zH | apply zI | apply zJ | refine zB ?_ (zA.out (by assumption))) | exact HB.out))) A8.out).mono ?_
   (case side1 => repeat (first | exact (Kd.yN HO438.out).2.2 | (with_reducible refine Kd.qR ?_ _) | (with_reducible refine Kd.qM ?_ _) | (with_reducible refine Kd.jH ?_)))
   (case side2 => exact (Kd.yN HO438.out).2.1)
   rintro e w38 ⟨v449, rfl, ho0, hb⟩
   refine ⟨_, rfl, ?_⟩
   have n0_ := zA.mk (Kd.yD (by (with_reducible repeat (first | apply Kd.zO | apply Kd.zM | apply Kd.zS)); exact HO438.out) (Kd.yQ ho0) hb)
   have n1_ := zA.mk (Kd.yD (by (with_reducible repeat (first | apply Kd.zO | apply Kd.zM | apply Kd.zS)); exact HO444.out) (Kd.yQ ho0) hb)
   have n2_ := zA.mk (Kd.qB (Kd.yP (Kd.yP ho0 (Kd.R_lt (by (with_reducible repeat (first | apply Kd.zO | apply Kd.zM | apply Kd.zS)); exact HO438.out))) (Kd.R_lt (by (with_reducible repeat (first | apply Kd.zO | apply Kd.zM | apply Kd.zS)); exact HO444.out))) (zW (by repeat (first | (with_reducible first | exact HB.out | apply zH | apply zI | apply zJ | refine zB ?_ GE439.out | refine zB ?_ GE440.out | refine zB ?_ GE446.out) | exact HB.out))))
   have n3_ := zA.mk (zK (g := gb439) (o := .cells #[.int .i64 t435, .slice Ao25 t436.length co25] 24 (0, 0)) (by (with_reducible repeat (first | apply zC | apply zG | apply zD)); exact BK439.out) hb)
   have n4_ := zA.mk (zK (g := gb440) (o := .cells #[.int .u64 (IntKind.u64.wrap (a0 + 7)), .int .i64 ((l1.length : Int) % 24)] 27 (0, 0)) (by (with_reducible repeat (first | apply zC | apply zG | apply zD)); exact BK440.out) hb)
   have n5_ := zA.mk (zK (g := gb446) (o := .cells #[.int .i64 t441, .slice Ao35 t442.length co35] 24 (0, 0)) (by (with_reducible repeat (first | apply zC | apply zG | apply zD)); exact BK446.out) hb)
   have n6_ := zA.mk (zT (by repeat (first | (with_reducible first | exact HB.out | apply zH | apply zI | apply zJ | refine zB ?_ GE439.out | refine zB ?_ GE440.out | refine zB ?_ GE446.out) | exact HB.out)) hb)
   clear HO438 HO444 BK439 BK440 BK446 HB; have HO438 := n0_; have HO444 := n1_; have HO450 := n2_; have BK439 := n3_; have BK440 := n4_; have BK446 := n5_; have HB := n6_; clear n0_ n1_ n2_ n3_ n4_ n5_ n6_
   (try clear hb)
   (try clear hb2)
   (try clear hk)
   (try clear hi)
   (try clear ho0)
   obtain ⟨Ao39, co39, eo39⟩ := Kd.xV HO450.out
   (first | subst eo39 | (injection eo39 with f1_ f2_ f3_; have f4_ := f1_.symm; have f5_ := f3_.symm; clear f1_ f2_ f3_; subst f4_; subst f5_))
   refine hK.out _ _ ⟨(zF BK439.out 0).trans rfl, (zF BK439.out 1).trans rfl, (zF BK440.out 0).trans rfl, (zF BK440.out 1).trans rfl⟩ (fun hHeld => ?_)
   clear hK K
   refine xA (a' := ?_) ?_ ?_
   rotate_left
   ·show Act.put _ (some 40) _ = _
    simp only [Act.put, List.setIfInBounds_toArray, List.set_cons_zero, List.set_cons_succ, zU, zV]
    rfl
   refine two_ (i := 13) (j := 17) (Ni := some 51) (Nj := some 12) #[true, true, true, true, true, true, true, true, true, true, true, true, true, true, false, false, false, false, false, false] #[true, true, true, true, true, true, true, true, true, true, true, true, true, false, false, false, false, true, false, false] rfl rfl rfl rfl (two_of HT_.out (by kernel_rfl)) (by decide) (by decide) (fun K hK => ?_) (fun K hK => ?_)
   ·skip
    refine qF Tryd.func11 (by kernel_rfl) rfl #[.agg #[.int .i64 t447, .slice Ao39 t448.length co39], .int .u64 (IntKind.u64.wrap (a0 + a2)), .agg #[.int .u64 (IntKind.u64.wrap ((IntKind.u64.wrap (a0 + 7)) + a2)), .int .i64 ((l1.length : Int) % 24)]] (by rfl) rfl rfl (by (try simp only [List.map_toArray, List.map_cons, List.map_nil]); first | done | rfl | (simp only [List.length_drop, List.length_take]; rfl)) ?_
    with_reducible refine (tree_Insert.calls t447 _ _ t448 (IntKind.u64.wrap (a0 + a2)) (IntKind.u64.wrap ((IntKind.u64.wrap (a0 + 7)) + a2)) ((l1.length : Int) % 24) t451 t452 t455 _ ?side1 ?side2 (by first | exact hT | ((repeat (first | exact hT | apply Tm.Emp.drewN | apply Tm.Emp.drew)); done) | exact Tm.Emp.below hT (by repeat (first | (with_reducible first | exact HB.out | apply zH | apply zI | apply zJ | refine zB ?_ (zA.out (by assumption))) | exact HB.out))) A9.out).mono ?_
    (case side1 => repeat (first | exact (Kd.yN HO450.out).2.2 | (with_reducible refine Kd.qR ?_ _) | (with_reducible refine Kd.qM ?_ _) | (with_reducible refine Kd.jH ?_)))
    (case side2 => exact (Kd.yN HO450.out).2.1)
    rintro e w40 ⟨v453, rfl, ho0, hb⟩
    refine ⟨_, rfl, ?_⟩
    have n0_ := zA.mk (Kd.yD (by (with_reducible repeat (first | apply Kd.zO | apply Kd.zM | apply Kd.zS)); exact HO438.out) (Kd.yQ ho0) hb)
    have n1_ := zA.mk (Kd.yD (by (with_reducible repeat (first | apply Kd.zO | apply Kd.zM | apply Kd.zS)); exact HO444.out) (Kd.yQ ho0) hb)
    have n2_ := zA.mk (Kd.yD (by (with_reducible repeat (first | apply Kd.zO | apply Kd.zM | apply Kd.zS)); exact HO450.out) (Kd.yQ ho0) hb)
    have n3_ := zA.mk (Kd.qB (Kd.yP (Kd.yP (Kd.yP ho0 (Kd.R_lt (by (with_reducible repeat (first | apply Kd.zO | apply Kd.zM | apply Kd.zS)); exact HO438.out))) (Kd.R_lt (by (with_reducible repeat (first | apply Kd.zO | apply Kd.zM | apply Kd.zS)); exact HO444.out))) (Kd.R_lt (by (with_reducible repeat (first | apply Kd.zO | apply Kd.zM | apply Kd.zS)); exact HO450.out))) (zW (by repeat (first | (with_reducible first | exact HB.out | apply zH | apply zI | apply zJ | refine zB ?_ GE439.out | refine zB ?_ GE440.out | refine zB ?_ GE446.out) | exact HB.out))))
    have n4_ := zA.mk (zK (g := gb439) (o := .cells #[.int .i64 t435, .slice Ao25 t436.length co25] 24 (0, 0)) (by (with_reducible repeat (first | apply zC | apply zG | apply zD)); exact BK439.out) hb)
    have n5_ := zA.mk (zK (g := gb440) (o := .cells #[.int .u64 (IntKind.u64.wrap (a0 + 7)), .int .i64 ((l1.length : Int) % 24)] 27 (0, 0)) (by (with_reducible repeat (first | apply zC | apply zG | apply zD)); exact BK440.out) hb)
    have n6_ := zA.mk (zK (g := gb446) (o := .cells #[.int .i64 t441, .slice Ao35 t442.length co35] 24 (0, 0)) (by (with_reducible repeat (first | apply zC | apply zG | apply zD)); exact BK446.out) hb)
    have n7_ := zA.mk (zT (by repeat (first | (with_reducible first | exact HB.out | apply zH | apply zI | apply zJ | refine zB ?_ GE439.out | refine zB ?_ GE440.out | refine zB ?_ GE446.out) | exact HB.out)) hb)
    clear HO438 HO444 HO450 BK439 BK440 BK446 HB; have HO438 := n0_; have HO444 := n1_; have HO450 := n2_; have HO454 := n3_; have BK439 := n4_; have BK440 := n5_; have BK446 := n6_; have HB := n7_; clear n0_ n1_ n2_ n3_ n4_ n5_ n6_ n7_
    (try clear hb)
    (try clear hb2)
    (try clear hk)
    (try clear hi)
    (try clear ho0)
    refine hK.out _ _ ⟨(zF BK439.out 0).trans rfl, (zF BK439.out 1).trans rfl, (zF BK440.out 0).trans rfl, (zF BK440.out 1).trans rfl⟩ (fun hHeld => ?_)
    clear hK K
    refine xA (a' := ?_) ?_ ?_
    rotate_left
    ·show Act.put _ (some 51) _ = _
     simp only [Act.put, List.setIfInBounds_toArray, List.set_cons_zero, List.set_cons_succ, zU, zV]
     rfl
    refine yB (i := 14) (N := some 37) (v := ?_) (a' := ?_) #[true, true, true, true, true, true, true, true, true, true, true, true, true, true, true, false, false, false, false, false] rfl rfl (yJ HT_.out (by kernel_rfl)) (fun _ _ _ h => h) (Or.inl ⟨by rfl, ?_⟩) ?_ ?_
    rotate_left
    ·intro w'
     go_simp
     with_reducible rfl
    rotate_left
    ·simp only [Act.put, List.setIfInBounds_toArray, List.set_cons_zero, List.set_cons_succ, zU, zV]
     rfl
    refine yB (i := 15) (N := some 52) (v := ?_) (a' := ?_) #[true, true, true, true, true, true, true, true, true, true, true, true, true, true, true, true, false, false, false, false] rfl rfl (yJ HT_.out (by kernel_rfl)) (fun _ _ _ h => h) (Or.inl ⟨by rfl, ?_⟩) ?_ ?_
    rotate_left
    ·intro w'
     go_simp
     with_reducible rfl
    rotate_left
    ·simp only [Act.put, List.setIfInBounds_toArray, List.set_cons_zero, List.set_cons_succ, zU, zV]
     rfl
    refine yB (i := 16) (N := some 53) (v := ?_) (a' := ?_) #[true, true, true, true, true, true, true, true, true, true, true, true, true, true, true, true, true, false, false, false] rfl rfl (yJ HT_.out (by kernel_rfl)) (fun _ _ _ h => h) (Or.inl ⟨by rfl, ?_⟩) ?_ ?_
    rotate_left
    ·intro w'
     go_simp
     with_reducible rfl
    rotate_left
    ·simp only [Act.put, List.setIfInBounds_toArray, List.set_cons_zero, List.set_cons_succ, zU, zV]
     rfl
    refine one_ (i := 17) (N := some 12) #[true, true, true, true, true, true, true, true, true, true, true, true, true, true, true, true, true, true, false, false] rfl rfl (qW HT_.out (by kernel_rfl)) (by decide) (fun K hK => ?_)
    refine wJ ?hg (N := 12) ?hd (cs := #[.int .i64 0, .slice none 0 0]) (t := 24) ?hr ?_; (case hd => rfl); (case hg => rfl); (case hr => first | (go_simp; done) | (go_simp; rfl))
    intro gb456 hg w41 hbox hb
    have n0_ := zA.mk (Kd.yG (by (with_reducible repeat (first | apply Kd.zO | apply Kd.zM | apply Kd.zS)); exact HO438.out) hb)
    have n1_ := zA.mk (Kd.yG (by (with_reducible repeat (first | apply Kd.zO | apply Kd.zM | apply Kd.zS)); exact HO444.out) hb)
    have n2_ := zA.mk (Kd.yG (by (with_reducible repeat (first | apply Kd.zO | apply Kd.zM | apply Kd.zS)); exact HO450.out) hb)
    have n3_ := zA.mk (Kd.yG (by (with_reducible repeat (first | apply Kd.zO | apply Kd.zM | apply Kd.zS)); exact HO454.out) hb)
    have n4_ := zA.mk (zK (g := gb439) (o := .cells #[.int .i64 t435, .slice Ao25 t436.length co25] 24 (0, 0)) (by (with_reducible repeat (first | apply zC | apply zG | apply zD)); exact BK439.out) hb)
    have n5_ := zA.mk (zK (g := gb440) (o := .cells #[.int .u64 (IntKind.u64.wrap (a0 + 7)), .int .i64 ((l1.length : Int) % 24)] 27 (0, 0)) (by (with_reducible repeat (first | apply zC | apply zG | apply zD)); exact BK440.out) hb)
    have n6_ := zA.mk (zK (g := gb446) (o := .cells #[.int .i64 t441, .slice Ao35 t442.length co35] 24 (0, 0)) (by (with_reducible repeat (first | apply zC | apply zG | apply zD)); exact BK446.out) hb)
    have n7_ := zA.mk (zT (by repeat (first | (with_reducible first | exact HB.out | apply zH | apply zI | apply zJ | refine zB ?_ GE439.out | refine zB ?_ GE440.out | refine zB ?_ GE446.out) | exact HB.out)) hb)
    have n8_ := zA.mk (hbox)
    have n9_ := zA.mk ((by rw [hg]; exact (zW (by repeat (first | (with_reducible first | exact HB.out | apply zH | apply zI | apply zJ | refine zB ?_ GE439.out | refine zB ?_ GE440.out | refine zB ?_ GE446.out) | exact HB.out))) : w.heap.size ≤ gb456))
    have n10_ := zA.mk ((by rw [hg]; exact (zW (by repeat (first | (with_reducible first | exact HB.out | apply zH | apply zI | apply zJ | refine zB ?_ GE439.out | refine zB ?_ GE440.out | refine zB ?_ GE446.out) | exact HB.out))) : w.heap.size ≤ gb456))
    have n11_ := zA.mk ((by rw [hg]; exact Nat.ne_of_lt (yA (g := gb439) (o := .cells #[.int .i64 t435, .slice Ao25 t436.length co25] 24 (0, 0)) (by (with_reducible repeat (first | apply zC | apply zG | apply zD)); exact BK439.out)) : gb439 ≠ gb456))
    have n12_ := zA.mk ((by rw [hg]; exact Nat.ne_of_gt (yA (g := gb439) (o := .cells #[.int .i64 t435, .slice Ao25 t436.length co25] 24 (0, 0)) (by (with_reducible repeat (first | apply zC | apply zG | apply zD)); exact BK439.out)) : gb456 ≠ gb439))
    have n13_ := zA.mk ((by rw [hg]; exact Nat.ne_of_lt (yA (g := gb440) (o := .cells #[.int .u64 (IntKind.u64.wrap (a0 + 7)), .int .i64 ((l1.length : Int) % 24)] 27 (0, 0)) (by (with_reducible repeat (first | apply zC | apply zG | apply zD)); exact BK440.out)) : gb440 ≠ gb456))
    have n14_ := zA.mk ((by rw [hg]; exact Nat.ne_of_gt (yA (g := gb440) (o := .cells #[.int .u64 (IntKind.u64.wrap (a0 + 7)), .int .i64 ((l1.length : Int) % 24)] 27 (0, 0)) (by (with_reducible repeat (first | apply zC | apply zG | apply zD)); exact BK440.out)) : gb456 ≠ gb440))
    have n15_ := zA.mk ((by rw [hg]; exact Nat.ne_of_lt (yA (g := gb446) (o := .cells #[.int .i64 t441, .slice Ao35 t442.length co35] 24 (0, 0)) (by (with_reducible repeat (first | apply zC | apply zG | apply zD)); exact BK446.out)) : gb446 ≠ gb456))
    have n16_ := zA.mk ((by rw [hg]; exact Nat.ne_of_gt (yA (g := gb446) (o := .cells #[.int .i64 t441, .slice Ao35 t442.length co35] 24 (0, 0)) (by (with_reducible repeat (first | apply zC | apply zG | apply zD)); exact BK446.out)) : gb456 ≠ gb446))
    clear HO438 HO444 HO450 HO454 BK439 BK440 BK446 HB; have HO438 := n0_; have HO444 := n1_; have HO450 := n2_; have HO454 := n3_; have BK439 := n4_; have BK440 := n5_; have BK446 := n6_; have HB := n7_; have BK456 := n8_; have GW456 := n9_; have GE456 := n10_; have NB439_456 := n11_; have NB456_439 := n12_; have NB440_456 := n13_; have NB456_440 := n14_; have NB446_456 := n15_; have NB456_446 := n16_; clear n0_ n1_ n2_ n3_ n4_ n5_ n6_ n7_ n8_ n9_ n10_ n11_ n12_ n13_ n14_ n15_ n16_; clear hb hbox hg
    refine hK.out _ _ ⟨(zF BK439.out 0).trans rfl, (zF BK439.out 1).trans rfl, (zF BK440.out 0).trans rfl, (zF BK440.out 1).trans rfl⟩ (fun hHeld => ?_)
    clear hK K
    refine xA (a' := ?_) ?_ ?_
    rotate_left
    ·show Act.put _ (some 12) _ = _
     simp only [Act.put, List.setIfInBounds_toArray, List.set_cons_zero, List.set_cons_succ, zU, zV]
     rfl
    exact xA (by simp only [kJ, Act.put, List.setIfInBounds_toArray, List.set_cons_zero, List.set_cons_succ]) (hCont (.slice Ao39 t448.length co39, v453, gb456) _ ⟨hHeld, (by (with_reducible repeat (first | apply Kd.zO | apply Kd.zM | apply Kd.zS)); exact Kd.yF HO438.out (fun _ hk => ⟨hk.1.1, ⟨hk.1.2, hk.2⟩⟩)), (by (with_reducible repeat (first | apply Kd.zO | apply Kd.zM | apply Kd.zS)); exact Kd.yF HO444.out (fun _ hk => ⟨hk.1.1, ⟨hk.1.2, hk.2⟩⟩)), (by (with_reducible repeat (first | apply Kd.zO | apply Kd.zM | apply Kd.zS)); exact Kd.yF HO450.out (fun _ hk => ⟨hk.1.1.2, ⟨hk.1.2, hk.2⟩⟩)), (by (with_reducible repeat (first | apply Kd.zO | apply Kd.zM | apply Kd.zS)); exact Kd.yF HO454.out (fun _ hk => ⟨hk.1.1.2, ⟨hk.1.2, hk.2⟩⟩)), (by (with_reducible repeat (first | apply zC | apply zG | apply zD)); exact BK439.out), (by (with_reducible repeat (first | apply zC | apply zG | apply zD)); exact BK440.out), (by (with_reducible repeat (first | apply zC | apply zG | apply zD)); exact BK446.out), (by (with_reducible repeat (first | apply zC | apply zG | apply zD)); exact BK456.out), GW456.out, GE456.out, NB439_456.out, NB456_439.out, NB440_456.out, NB456_440.out, NB446_456.out, NB456_446.out, (by repeat (first | (with_reducible first | exact HB.out | apply zH | apply zI | apply zJ | refine zB ?_ GE439.out | refine zB ?_ GE440.out | refine zB ?_ GE446.out | refine zB ?_ GE456.out) | exact HB.out))⟩)
   ·skip
    refine wJ ?hg (N := 12) ?hd (cs := #[.int .i64 0, .slice none 0 0]) (t := 24) ?hr ?_; (case hd => rfl); (case hg => rfl); (case hr => first | (go_simp; done) | (go_simp; rfl))
    intro gb456 hg w39 hbox hb
    have n0_ := zA.mk (Kd.yG (by (with_reducible repeat (first | apply Kd.zO | apply Kd.zM | apply Kd.zS)); exact HO438.out) hb)
    have n1_ := zA.mk (Kd.yG (by (with_reducible repeat (first | apply Kd.zO | apply Kd.zM | apply Kd.zS)); exact HO444.out) hb)
    have n2_ := zA.mk (Kd.yG (by (with_reducible repeat (first | apply Kd.zO | apply Kd.zM | apply Kd.zS)); exact HO450.out) hb)
    have n3_ := zA.mk (zK (g := gb439) (o := .cells #[.int .i64 t435, .slice Ao25 t436.length co25] 24 (0, 0)) (by (with_reducible repeat (first | apply zC | apply zG | apply zD)); exact BK439.out) hb)
    have n4_ := zA.mk (zK (g := gb440) (o := .cells #[.int .u64 (IntKind.u64.wrap (a0 + 7)), .int .i64 ((l1.length : Int) % 24)] 27 (0, 0)) (by (with_reducible repeat (first | apply zC | apply zG | apply zD)); exact BK440.out) hb)
    have n5_ := zA.mk (zK (g := gb446) (o := .cells #[.int .i64 t441, .slice Ao35 t442.length co35] 24 (0, 0)) (by (with_reducible repeat (first | apply zC | apply zG | apply zD)); exact BK446.out) hb)
    have n6_ := zA.mk (zT (by repeat (first | (with_reducible first | exact HB.out | apply zH | apply zI | apply zJ | refine zB ?_ GE439.out | refine zB ?_ GE440.out | refine zB ?_ GE446.out) | exact HB.out)) hb)
    have n7_ := zA.mk (hbox)
    have n8_ := zA.mk ((by rw [hg]; exact (zW (by repeat (first | (with_reducible first | exact HB.out | apply zH | apply zI | apply zJ | refine zB ?_ GE439.out | refine zB ?_ GE440.out | refine zB ?_ GE446.out) | exact HB.out))) : w.heap.size ≤ gb456))
    have n9_ := zA.mk ((by rw [hg]; exact (zW (by repeat (first | (with_reducible first | exact HB.out | apply zH | apply zI | apply zJ | refine zB ?_ GE439.out | refine zB ?_ GE440.out | refine zB ?_ GE446.out) | exact HB.out))) : w.heap.size ≤ gb456))
    have n10_ := zA.mk ((by rw [hg]; exact Nat.ne_of_lt (yA (g := gb439) (o := .cells #[.int .i64 t435, .slice Ao25 t436.length co25] 24 (0, 0)) (by (with_reducible repeat (first | apply zC | apply zG | apply zD)); exact BK439.out)) : gb439 ≠ gb456))
    have n11_ := zA.mk ((by rw [hg]; exact Nat.ne_of_gt (yA (g := gb439) (o := .cells #[.int .i64 t435, .slice Ao25 t436.length co25] 24 (0, 0)) (by (with_reducible repeat (first | apply zC | apply zG | apply zD)); exact BK439.out)) : gb456 ≠ gb439))
    have n12_ := zA.mk ((by rw [hg]; exact Nat.ne_of_lt (yA (g := gb440) (o := .cells #[.int .u64 (IntKind.u64.wrap (a0 + 7)), .int .i64 ((l1.length : Int) % 24)] 27 (0, 0)) (by (with_reducible repeat (first | apply zC | apply zG | apply zD)); exact BK440.out)) : gb440 ≠ gb456))
    have n13_ := zA.mk ((by rw [hg]; exact Nat.ne_of_gt (yA (g := gb440) (o := .cells #[.int .u64 (IntKind.u64.wrap (a0 + 7)), .int .i64 ((l1.length : Int) % 24)] 27 (0, 0)) (by (with_reducible repeat (first | apply zC | apply zG | apply zD)); exact BK440.out)) : gb456 ≠ gb440))
    have n14_ := zA.mk ((by rw [hg]; exact Nat.ne_of_lt (yA (g := gb446) (o := .cells #[.int .i64 t441, .slice Ao35 t442.length co35] 24 (0, 0)) (by (with_reducible repeat (first | apply zC | apply zG | apply zD)); exact BK446.out)) : gb446 ≠ gb456))
    have n15_ := zA.mk ((by rw [hg]; exact Nat.ne_of_gt (yA (g := gb446) (o := .cells #[.int .i64 t441, .slice Ao35 t442.length co35] 24 (0, 0)) (by (with_reducible repeat (first | apply zC | apply zG | apply zD)); exact BK446.out)) : gb456 ≠ gb446))
    clear HO438 HO444 HO450 BK439 BK440 BK446 HB; have HO438 := n0_; have HO444 := n1_; have HO450 := n2_; have BK439 := n3_; have BK440 := n4_; have BK446 := n5_; have HB := n6_; have BK456 := n7_; have GW456 := n8_; have GE456 := n9_; have NB439_456 := n10_; have NB456_439 := n11_; have NB440_456 := n12_; have NB456_440 := n13_; have NB446_456 := n14_; have NB456_446 := n15_; clear n0_ n1_ n2_ n3_ n4_ n5_ n6_ n7_ n8_ n9_ n10_ n11_ n12_ n13_ n14_ n15_; clear hb hbox hg
    obtain ⟨Ao40, co40, eo40⟩ := Kd.xV HO450.out
    (first | subst eo40 | (injection eo40 with f1_ f2_ f3_; have f4_ := f1_.symm; have f5_ := f3_.symm; clear f1_ f2_ f3_; subst f4_; subst f5_))
    refine hK.out _ _ ⟨(zF BK439.out 0).trans rfl, (zF BK439.out 1).trans rfl, (zF BK440.out 0).trans rfl, (zF BK440.out 1).trans rfl⟩ (fun hHeld => ?_)
    clear hK K
    refine xA (a' := ?_) ?_ ?_
    rotate_left
    ·show Act.put _ (some 12) _ = _
     simp only [Act.put, List.setIfInBounds_toArray, List.set_cons_zero, List.set_cons_succ, zU, zV]
     rfl
    refine one_ (i := 13) (N := some 51) #[true, true, true, true, true, true, true, true, true, true, true, true, true, true, false, false, false, true, false, false] rfl rfl (qW HT_.out (by kernel_rfl)) (by decide) (fun K hK => ?_)
    refine qF Tryd.func11 (by kernel_rfl) rfl #[.agg #[.int .i64 t447, .slice Ao40 t448.length co40], .int .u64 (IntKind.u64.wrap (a0 + a2)), .agg #[.int .u64 (IntKind.u64.wrap ((IntKind.u64.wrap (a0 + 7)) + a2)), .int .i64 ((l1.length : Int) % 24)]] (by rfl) rfl rfl (by (try simp only [List.map_toArray, List.map_cons, List.map_nil]); first | done | rfl | (simp only [List.length_drop, List.length_take]; rfl)) ?_
    with_reducible refine (tree_Insert.calls t447 _ _ t448 (IntKind.u64.wrap (a0 + a2)) (IntKind.u64.wrap ((IntKind.u64.wrap (a0 + 7)) + a2)) ((l1.length : Int) % 24) t451 t452 t455 _ ?side1 ?side2 (by first | exact hT | ((repeat (first | exact hT | apply Tm.Emp.drewN | apply Tm.Emp.drew)); done) | exact Tm.Emp.below hT (by repeat (first | (with_reducible first | exact HB.out | apply zH | apply zI | apply zJ | refine zB ?_ (zA.out (by assumption))) | exact HB.out))) A9.out).mono ?_
    (case side1 => repeat (first | exact (Kd.yN HO450.out).2.2 | (with_reducible refine Kd.qR ?_ _) | (with_reducible refine Kd.qM ?_ _) | (with_reducible refine Kd.jH ?_)))
    (case side2 => exact (Kd.yN HO450.out).2.1)
    rintro e w41 ⟨v453, rfl, ho0, hb⟩
    refine ⟨_, rfl, ?_⟩
    have n0_ := zA.mk (Kd.yD (by (with_reducible repeat (first | apply Kd.zO | apply Kd.zM | apply Kd.zS)); exact HO438.out) (Kd.yQ ho0) hb)
    have n1_ := zA.mk (Kd.yD (by (with_reducible repeat (first | apply Kd.zO | apply Kd.zM | apply Kd.zS)); exact HO444.out) (Kd.yQ ho0) hb)
    have n2_ := zA.mk (Kd.yD (by (with_reducible repeat (first | apply Kd.zO | apply Kd.zM | apply Kd.zS)); exact HO450.out) (Kd.yQ ho0) hb)
    have n3_ := zA.mk (Kd.qB (Kd.yP (Kd.yP (Kd.yP ho0 (Kd.R_lt (by (with_reducible repeat (first | apply Kd.zO | apply Kd.zM | apply Kd.zS)); exact HO438.out))) (Kd.R_lt (by (with_reducible repeat (first | apply Kd.zO | apply Kd.zM | apply Kd.zS)); exact HO444.out))) (Kd.R_lt (by (with_reducible repeat (first | apply Kd.zO | apply Kd.zM | apply Kd.zS)); exact HO450.out))) (zW (by repeat (first | (with_reducible first | exact HB.out | apply zH | apply zI | apply zJ | refine zB ?_ GE439.out | refine zB ?_ GE440.out | refine zB ?_ GE446.out | refine zB ?_ GE456.out) | exact HB.out))))
    have n4_ := zA.mk (zK (g := gb439) (o := .cells #[.int .i64 t435, .slice Ao25 t436.length co25] 24 (0, 0)) (by (with_reducible repeat (first | apply zC | apply zG | apply zD)); exact BK439.out) hb)
    have n5_ := zA.mk (zK (g := gb440) (o := .cells #[.int .u64 (IntKind.u64.wrap (a0 + 7)), .int .i64 ((l1.length : Int) % 24)] 27 (0, 0)) (by (with_reducible repeat (first | apply zC | apply zG | apply zD)); exact BK440.out) hb)
    have n6_ := zA.mk (zK (g := gb446) (o := .cells #[.int .i64 t441, .slice Ao35 t442.length co35] 24 (0, 0)) (by (with_reducible repeat (first | apply zC | apply zG | apply zD)); exact BK446.out) hb)
    have n7_ := zA.mk (zK (g := gb456) (o := .cells #[.int .i64 0, .slice none 0 0] 24 (0, 0)) (by (with_reducible repeat (first | apply zC | apply zG | apply zD)); exact BK456.out) hb)
    have n8_ := zA.mk (zT (by repeat (first | (with_reducible first | exact HB.out | apply zH | apply zI | apply zJ | refine zB ?_ GE439.out | refine zB ?_ GE440.out | refine zB ?_ GE446.out | refine zB ?_ GE456.out) | exact HB.out)) hb)
    clear HO438 HO444 HO450 BK439 BK440 BK446 BK456 HB; have HO438 := n0_; have HO444 := n1_; have HO450 := n2_; have HO454 := n3_; have BK439 := n4_; have BK440 := n5_; have BK446 := n6_; have BK456 := n7_; have HB := n8_; clear n0_ n1_ n2_ n3_ n4_ n5_ n6_ n7_ n8_
    (try clear hb)
    (try clear hb2)
    (try clear hk)
    (try clear hi)
    (try clear ho0)
    refine hK.out _ _ ⟨(zF BK439.out 0).trans rfl, (zF BK439.out 1).trans rfl, (zF BK440.out 0).trans rfl, (zF BK440.out 1).trans rfl⟩ (fun hHeld => ?_)
    clear hK K
    refine xA (a' := ?_) ?_ ?_
    rotate_left
    ·show Act.put _ (some 51) _ = _
     simp only [Act.put, List.setIfInBounds_toArray, List.set_cons_zero, List.set_cons_succ, zU, zV]
     rfl
    refine yB (i := 14) (N := some 37) (v := ?_) (a' := ?_) #[true, true, true, true, true, true, true, true, true, true, true, true, true, true, true, false, false, true, false, false] rfl rfl (yJ HT_.out (by kernel_rfl)) (fun _ _ _ h => h) (Or.inl ⟨by rfl, ?_⟩) ?_ ?_
    rotate_left
    ·intro w'
     go_simp
     with_reducible rfl
    rotate_left
    ·simp only [Act.put, List.setIfInBounds_toArray, List.set_cons_zero, List.set_cons_succ, zU, zV]
     rfl
    refine yB (i := 15) (N := some 52) (v := ?_) (a' := ?_) #[true, true, true, true, true, true, true, true, true, true, true, true, true, true, true, true, false, true, false, false] rfl rfl (yJ HT_.out (by kernel_rfl)) (fun _ _ _ h => h) (Or.inl ⟨by rfl, ?_⟩) ?_ ?_
    rotate_left
    ·intro w'
     go_simp
     with_reducible rfl
    rotate_left
    ·simp only [Act.put, List.setIfInBounds_toArray, List.set_cons_zero, List.set_cons_succ, zU, zV]
     rfl
    refine yB (i := 16) (N := some 53) (v := ?_) (a' := ?_) #[true, true, true, true, true, true, true, true, true, true, true, true, true, true, true, true, true, true, false, false] rfl rfl (yJ HT_.out (by kernel_rfl)) (fun _ _ _ h => h) (Or.inl ⟨by rfl, ?_⟩) ?_ ?_
    rotate_left
    ·intro w'
     go_simp
     with_reducible rfl
    rotate_left
    ·simp only [Act.put, List.setIfInBounds_toArray, List.set_cons_zero, List.set_cons_succ, zU, zV]
     rfl
    exact xA (by simp only [kJ, Act.put, List.setIfInBounds_toArray, List.set_cons_zero, List.set_cons_succ]) (hCont (.slice Ao40 t448.length co40, v453, gb456) _ ⟨hHeld, (by (with_reducible repeat (first | apply Kd.zO | apply Kd.zM | apply Kd.zS)); exact Kd.yF HO438.out (fun _ hk => ⟨hk.1.1, ⟨hk.1.2, hk.2⟩⟩)), (by (with_reducible repeat (first | apply Kd.zO | apply Kd.zM | apply Kd.zS)); exact Kd.yF HO444.out (fun _ hk => ⟨hk.1.1, ⟨hk.1.2, hk.2⟩⟩)), (by (with_reducible repeat (first | apply Kd.zO | apply Kd.zM | apply Kd.zS)); exact Kd.yF HO450.out (fun _ hk => ⟨hk.1.1.2, ⟨hk.1.2, hk.2⟩⟩)), (by (with_reducible repeat (first | apply Kd.zO | apply Kd.zM | apply Kd.zS)); exact Kd.yF HO454.out (fun _ hk => ⟨hk.1.1.2, ⟨hk.1.2, hk.2⟩⟩)), (by (with_reducible repeat (first | apply zC | apply zG | apply zD)); exact BK439.out), (by (with_reducible repeat (first | apply zC | apply zG | apply zD)); exact BK440.out), (by (with_reducible repeat (first | apply zC | apply zG | apply zD)); exact BK446.out), (by (with_reducible repeat (first | apply zC | apply zG | apply zD)); exact BK456.out), GW456.out, GE456.out, NB439_456.out, NB456_439.out, NB440_456.out, NB456_440.out, NB446_456.out, NB456_446.out, (by repeat (first | (with_reducible first | exact HB.out | apply zH | apply zI | apply zJ | refine zB ?_ GE439.out | refine zB ?_ GE440.out | refine zB ?_ GE446.out | refine zB ?_ GE456.out) | exact HB.out))⟩)
  ·skip
   refine wJ ?hg (N := 12) ?hd (cs := #[.int .i64 0, .slice none 0 0]) (t := 24) ?hr ?_; (case hd => rfl); (case hg => rfl); (case hr => first | (go_simp; done) | (go_simp; rfl))
   intro gb456 hg w38 hbox hb
   have n0_ := zA.mk (Kd.yG (by (with_reducible repeat (first | apply Kd.zO | apply Kd.zM | apply Kd.zS)); exact HO438.out) hb)
   have n1_ := zA.mk (Kd.yG (by (with_reducible repeat (first | apply Kd.zO | apply Kd.zM | apply Kd.zS)); exact HO444.out) hb)
   have n2_ := zA.mk (zK (g := gb439) (o := .cells #[.int .i64 t435, .slice Ao25 t436.length co25] 24 (0, 0)) (by (with_reducible repeat (first | apply zC | apply zG | apply zD)); exact BK439.out) hb)
   have n3_ := zA.mk (zK (g := gb440) (o := .cells #[.int .u64 (IntKind.u64.wrap (a0 + 7)), .int .i64 ((l1.length : Int) % 24)] 27 (0, 0)) (by (with_reducible repeat (first | apply zC | apply zG | apply zD)); exact BK440.out) hb)
   have n4_ := zA.mk (zK (g := gb446) (o := .cells #[.int .i64 t441, .slice Ao35 t442.length co35] 24 (0, 0)) (by (with_reducible repeat (first | apply zC | apply zG | apply zD)); exact BK446.out) hb)
   have n5_ := zA.mk (zT (by repeat (first | (with_reducible first | exact HB.out | apply zH | apply zI | apply zJ | refine zB ?_ GE439.out | refine zB ?_ GE440.out | refine zB ?_ GE446.out) | exact HB.out)) hb)
   have n6_ := zA.mk (hbox)
   have n7_ := zA.mk ((by rw [hg]; exact (zW (by repeat (first | (with_reducible first | exact HB.out | apply zH | apply zI | apply zJ | refine zB ?_ GE439.out | refine zB ?_ GE440.out | refine zB ?_ GE446.out) | exact HB.out))) : w.heap.size ≤ gb456))
   have n8_ := zA.mk ((by rw [hg]; exact (zW (by repeat (first | (with_reducible first | exact HB.out | apply zH | apply zI | apply zJ | refine zB ?_ GE439.out | refine zB ?_ GE440.out | refine zB ?_ GE446.out) | exact HB.out))) : w.heap.size ≤ gb456))
   have n9_ := zA.mk ((by rw [hg]; exact Nat.ne_of_lt (yA (g := gb439) (o := .cells #[.int .i64 t435, .slice Ao25 t436.length co25] 24 (0, 0)) (by (with_reducible repeat (first | apply zC | apply zG | apply zD)); exact BK439.out)) : gb439 ≠ gb456))
   have n10_ := zA.mk ((by rw [hg]; exact Nat.ne_of_gt (yA (g := gb439) (o := .cells #[.int .i64 t435, .slice Ao25 t436.length co25] 24 (0, 0)) (by (with_reducible repeat (first | apply zC | apply zG | apply zD)); exact BK439.out)) : gb456 ≠ gb439))
   have n11_ := zA.mk ((by rw [hg]; exact Nat.ne_of_lt (yA (g := gb440) (o := .cells #[.int .u64 (IntKind.u64.wrap (a0 + 7)), .int .i64 ((l1.length : Int) % 24)] 27 (0, 0)) (by (with_reducible repeat (first | apply zC | apply zG | apply zD)); exact BK440.out)) : gb440 ≠ gb456))
   have n12_ := zA.mk ((by rw [hg]; exact Nat.ne_of_gt (yA (g := gb440) (o := .cells #[.int .u64 (IntKind.u64.wrap (a0 + 7)), .int .i64 ((l1.length : Int) % 24)] 27 (0, 0)) (by (with_reducible repeat (first | apply zC | apply zG | apply zD)); exact BK440.out)) : gb456 ≠ gb440))
   have n13_ := zA.mk ((by rw [hg]; exact Nat.ne_of_lt (yA (g := gb446) (o := .cells #[.int .i64 t441, .slice Ao35 t442.length co35] 24 (0, 0)) (by (with_reducible repeat (first | apply zC | apply zG | apply zD)); exact BK446.out)) : gb446 ≠ gb456))
   have n14_ := zA.mk ((by rw [hg]; exact Nat.ne_of_gt (yA (g := gb446) (o := .cells #[.int .i64 t441, .slice Ao35 t442.length co35] 24 (0, 0)) (by (with_reducible repeat (first | apply zC | apply zG | apply zD)); exact BK446.out)) : gb456 ≠ gb446))
   clear HO438 HO444 BK439 BK440 BK446 HB; have HO438 := n0_; have HO444 := n1_; have BK439 := n2_; have BK440 := n3_; have BK446 := n4_; have HB := n5_; have BK456 := n6_; have GW456 := n7_; have GE456 := n8_; have NB439_456 := n9_; have NB456_439 := n10_; have NB440_456 := n11_; have NB456_440 := n12_; have NB446_456 := n13_; have NB456_446 := n14_; clear n0_ n1_ n2_ n3_ n4_ n5_ n6_ n7_ n8_ n9_ n10_ n11_ n12_ n13_ n14_; clear hb hbox hg
   refine hK.out _ _ ⟨(zF BK439.out 0).trans rfl, (zF BK439.out 1).trans rfl, (zF BK440.out 0).trans rfl, (zF BK440.out 1).trans rfl⟩ (fun hHeld => ?_)
   clear hK K
   refine xA (a' := ?_) ?_ ?_
   rotate_left
   ·show Act.put _ (some 12) _ = _
    simp only [Act.put, List.setIfInBounds_toArray, List.set_cons_zero, List.set_cons_succ, zU, zV]
    rfl
   refine one_ (i := 2) (N := some 40) #[true, true, true, true, true, true, true, true, true, true, true, true, true, false, false, false, false, true, false, false] rfl rfl (qW HT_.out (by kernel_rfl)) (by decide) (fun K hK => ?_)
   refine qF Tryd.func31 (by kernel_rfl) rfl #[.agg #[.int .i64 t435, .slice Ao25 t436.length co25], .int .u64 a2] (by rfl) rfl rfl (by (try simp only [List.map_toArray, List.map_cons, List.map_nil]); first | done | rfl | (simp only [List.length_drop, List.length_take]; rfl)) ?_
   with_reducible refine (turnspitlaw09_turned.calls k t435 _ _ t436 a2 t447 t448 _ ?side1 ?side2 (by first | exact hT | ((repeat (first | exact hT | apply Tm.Emp.drewN | apply Tm.Emp.drew)); done) | exact Tm.Emp.below hT (by repeat (first | (with_reducible first | exact HB.out | apply zH | apply zI | apply zJ | refine zB ?_ (zA.out (by assumption))) | exact HB.out))) A8.out).mono ?_
   (case side1 => repeat (first | exact (Kd.yN HO438.out).2.2 | (with_reducible refine Kd.qR ?_ _) | (with_reducible refine Kd.qM ?_ _) | (with_reducible refine Kd.jH ?_)))
   (case side2 => exact (Kd.yN HO438.out).2.1)
   rintro e w39 ⟨v449, rfl, ho0, hb⟩
   refine ⟨_, rfl, ?_⟩
   have n0_ := zA.mk (Kd.yD (by (with_reducible repeat (first | apply Kd.zO | apply Kd.zM | apply Kd.zS)); exact HO438.out) (Kd.yQ ho0) hb)
   have n1_ := zA.mk (Kd.yD (by (with_reducible repeat (first | apply Kd.zO | apply Kd.zM | apply Kd.zS)); exact HO444.out) (Kd.yQ ho0) hb)
   have n2_ := zA.mk (Kd.qB (Kd.yP (Kd.yP ho0 (Kd.R_lt (by (with_reducible repeat (first | apply Kd.zO | apply Kd.zM | apply Kd.zS)); exact HO438.out))) (Kd.R_lt (by (with_reducible repeat (first | apply Kd.zO | apply Kd.zM | apply Kd.zS)); exact HO444.out))) (zW (by repeat (first | (with_reducible first | exact HB.out | apply zH | apply zI | apply zJ | refine zB ?_ GE439.out | refine zB ?_ GE440.out | refine zB ?_ GE446.out | refine zB ?_ GE456.out) | exact HB.out))))
   have n3_ := zA.mk (zK (g := gb439) (o := .cells #[.int .i64 t435, .slice Ao25 t436.length co25] 24 (0, 0)) (by (with_reducible repeat (first | apply zC | apply zG | apply zD)); exact BK439.out) hb)
   have n4_ := zA.mk (zK (g := gb440) (o := .cells #[.int .u64 (IntKind.u64.wrap (a0 + 7)), .int .i64 ((l1.length : Int) % 24)] 27 (0, 0)) (by (with_reducible repeat (first | apply zC | apply zG | apply zD)); exact BK440.out) hb)
   have n5_ := zA.mk (zK (g := gb446) (o := .cells #[.int .i64 t441, .slice Ao35 t442.length co35] 24 (0, 0)) (by (with_reducible repeat (first | apply zC | apply zG | apply zD)); exact BK446.out) hb)
   have n6_ := zA.mk (zK (g := gb456) (o := .cells #[.int .i64 0, .slice none 0 0] 24 (0, 0)) (by (with_reducible repeat (first | apply zC | apply zG | apply zD)); exact BK456.out) hb)
   have n7_ := zA.mk (zT (by repeat (first | (with_reducible first | exact HB.out | apply zH | apply zI | apply zJ | refine zB ?_ GE439.out | refine zB ?_ GE440.out | refine zB ?_ GE446.out | refine zB ?_ GE456.out) | exact HB.out)) hb)
   clear HO438 HO444 BK439 BK440 BK446 BK456 HB; have HO438 := n0_; have HO444 := n1_; have HO450 := n2_; have BK439 := n3_; have BK440 := n4_; have BK446 := n5_; have BK456 := n6_; have HB := n7_; clear n0_ n1_ n2_ n3_ n4_ n5_ n6_ n7_
   (try clear hb)
   (try clear hb2)
   (try clear hk)
   (try clear hi)
   (try clear ho0)
   obtain ⟨Ao40, co40, eo40⟩ := Kd.xV HO450.out
   (first | subst eo40 | (injection eo40 with f1_ f2_ f3_; have f4_ := f1_.symm; have f5_ := f3_.symm; clear f1_ f2_ f3_; subst f4_; subst f5_))
   refine hK.out _ _ ⟨(zF BK439.out 0).trans rfl, (zF BK439.out 1).trans rfl, (zF BK440.out 0).trans rfl, (zF BK440.out 1).trans rfl⟩ (fun hHeld => ?_)
   clear hK K
   refine xA (a' := ?_) ?_ ?_
   rotate_left
   ·show Act.put _ (some 40) _ = _
    simp only [Act.put, List.setIfInBounds_toArray, List.set_cons_zero, List.set_cons_succ, zU, zV]
    rfl
   refine one_ (i := 13) (N := some 51) #[true, true, true, true, true, true, true, true, true, true, true, true, true, true, false, false, false, true, false, false] rfl rfl (qW HT_.out (by kernel_rfl)) (by decide) (fun K hK => ?_)
   refine qF Tryd.func11 (by kernel_rfl) rfl #[.agg #[.int .i64 t447, .slice Ao40 t448.length co40], .int .u64 (IntKind.u64.wrap (a0 + a2)), .agg #[.int .u64 (IntKind.u64.wrap ((IntKind.u64.wrap (a0 + 7)) + a2)), .int .i64 ((l1.length : Int) % 24)]] (by rfl) rfl rfl (by (try simp only [List.map_toArray, List.map_cons, List.map_nil]); first | done | rfl | (simp only [List.length_drop, List.length_take]; rfl)) ?_
   with_reducible refine (tree_Insert.calls t447 _ _ t448 (IntKind.u64.wrap (a0 + a2)) (IntKind.u64.wrap ((IntKind.u64.wrap (a0 + 7)) + a2)) ((l1.length : Int) % 24) t451 t452 t455 _ ?side1 ?side2 (by first | exact hT | ((repeat (first | exact hT | apply Tm.Emp.drewN | apply Tm.Emp.drew)); done) | exact Tm.Emp.below hT (by repeat (first | (with_reducible first | exact HB.out | apply zH | apply zI | apply zJ | refine zB ?_ (zA.out (by assumption))) | exact HB.out))) A9.out).mono ?_
   (case side1 => repeat (first | exact (Kd.yN HO450.out).2.2 | (with_reducible refine Kd.qR ?_ _) | (with_reducible refine Kd.qM ?_ _) | (with_reducible refine Kd.jH ?_)))
   (case side2 => exact (Kd.yN HO450.out).2.1)
   rintro e w41 ⟨v453, rfl, ho0, hb⟩
   refine ⟨_, rfl, ?_⟩
   have n0_ := zA.mk (Kd.yD (by (with_reducible repeat (first | apply Kd.zO | apply Kd.zM | apply Kd.zS)); exact HO438.out) (Kd.yQ ho0) hb)
   have n1_ := zA.mk (Kd.yD (by (with_reducible repeat (first | apply Kd.zO | apply Kd.zM | apply Kd.zS)); exact HO444.out) (Kd.yQ ho0) hb)
   have n2_ := zA.mk (Kd.yD (by (with_reducible repeat (first | apply Kd.zO | apply Kd.zM | apply Kd.zS)); exact HO450.out) (Kd.yQ ho0) hb)
   have n3_ := zA.mk (Kd.qB (Kd.yP (Kd.yP (Kd.yP ho0 (Kd.R_lt (by (with_reducible repeat (first | apply Kd.zO | apply Kd.zM | apply Kd.zS)); exact HO438.out))) (Kd.R_lt (by (with_reducible repeat (first | apply Kd.zO | apply Kd.zM | apply Kd.zS)); exact HO444.out))) (Kd.R_lt (by (with_reducible repeat (first | apply Kd.zO | apply Kd.zM | apply Kd.zS)); exact HO450.out))) (zW (by repeat (first | (with_reducible first | exact HB.out | apply zH | apply zI | apply zJ | refine zB ?_ GE439.out | refine zB ?_ GE440.out | refine zB ?_ GE446.out | refine zB ?_ GE456.out) | exact HB.out))))
   have n4_ := zA.mk (zK (g := gb439) (o := .cells #[.int .i64 t435, .slice Ao25 t436.length co25] 24 (0, 0)) (by (with_reducible repeat (first | apply zC | apply zG | apply zD)); exact BK439.out) hb)
   have n5_ := zA.mk (zK (g := gb440) (o := .cells #[.int .u64 (IntKind.u64.wrap (a0 + 7)), .int .i64 ((l1.length : Int) % 24)] 27 (0, 0)) (by (with_reducible repeat (first | apply zC | apply zG | apply zD)); exact BK440.out) hb)
   have n6_ := zA.mk (zK (g := gb446) (o := .cells #[.int .i64 t441, .slice Ao35 t442.length co35] 24 (0, 0)) (by (with_reducible repeat (first | apply zC | apply zG | apply zD)); exact BK446.out) hb)
   have n7_ := zA.mk (zK (g := gb456) (o := .cells #[.int .i64 0, .slice none 0 0] 24 (0, 0)) (by (with_reducible repeat (first | apply zC | apply zG | apply zD)); exact BK456.out) hb)
   have n8_ := zA.mk (zT (by repeat (first | (with_reducible first | exact HB.out | apply zH | apply zI | apply zJ | refine zB ?_ GE439.out | refine zB ?_ GE440.out | refine zB ?_ GE446.out | refine zB ?_ GE456.out) | exact HB.out)) hb)
   clear HO438 HO444 HO450 BK439 BK440 BK446 BK456 HB; have HO438 := n0_; have HO444 := n1_; have HO450 := n2_; have HO454 := n3_; have BK439 := n4_; have BK440 := n5_; have BK446 := n6_; have BK456 := n7_; have HB := n8_; clear n0_ n1_ n2_ n3_ n4_ n5_ n6_ n7_ n8_
   (try clear hb)
   (try clear hb2)
   (try clear hk)
   (try clear hi)
   (try clear ho0)
   refine hK.out _ _ ⟨(zF BK439.out 0).trans rfl, (zF BK439.out 1).trans rfl, (zF BK440.out 0).trans rfl, (zF BK440.out 1).trans rfl⟩ (fun hHeld => ?_)
   clear hK K
   refine xA (a' := ?_) ?_ ?_
   rotate_left
   ·show Act.put _ (some 51) _ = _
    simp only [Act.put, List.setIfInBounds_toArray, List.set_cons_zero, List.set_cons_succ, zU, zV]
    rfl
   refine yB (i := 14) (N := some 37) (v := ?_) (a' := ?_) #[true, true, true, true, true, true, true, true, true, true, true, true, true, true, true, false, false, true, false, false] rfl rfl (yJ HT_.out (by kernel_rfl)) (fun _ _ _ h => h) (Or.inl ⟨by rfl, ?_⟩) ?_ ?_
   rotate_left
   ·intro w'
    go_simp
    with_reducible rfl
   rotate_left
   ·simp only [Act.put, List.setIfInBounds_toArray, List.set_cons_zero, List.set_cons_succ, zU, zV]
    rfl
   refine yB (i := 15) (N := some 52) (v := ?_) (a' := ?_) #[true, true, true, true, true, true, true, true, true, true, true, true, true, true, true, true, false, true, false, false] rfl rfl (yJ HT_.out (by kernel_rfl)) (fun _ _ _ h => h) (Or.inl ⟨by rfl, ?_⟩) ?_ ?_
   rotate_left
   ·intro w'
    go_simp
    with_reducible rfl
   rotate_left
   ·simp only [Act.put, List.setIfInBounds_toArray, List.set_cons_zero, List.set_cons_succ, zU, zV]
    rfl
   refine yB (i := 16) (N := some 53) (v := ?_) (a' := ?_) #[true, true, true, true, true, true, true, true, true, true, true, true, true, true, true, true, true, true, false, false] rfl rfl (yJ HT_.out (by kernel_rfl)) (fun _ _ _ h => h) (Or.inl ⟨by rfl, ?_⟩) ?_ ?_
   rotate_left
   ·intro w'
    go_simp
    with_reducible rfl
   rotate_left
   ·simp only [Act.put, List.setIfInBounds_toArray, List.set_cons_zero, List.set_cons_succ, zU, zV]
    rfl
   exact xA (by simp only [kJ, Act.put, List.setIfInBounds_toArray, List.set_cons_zero, List.set_cons_succ]) (hCont (.slice Ao40 t448.length co40, v453, gb456) _ ⟨hHeld, (by (with_reducible repeat (first | apply Kd.zO | apply Kd.zM | apply Kd.zS)); exact Kd.yF HO438.out (fun _ hk => ⟨hk.1.1, ⟨hk.1.2, hk.2⟩⟩)), (by (with_reducible repeat (first | apply Kd.zO | apply Kd.zM | apply Kd.zS)); exact Kd.yF HO444.out (fun _ hk => ⟨hk.1.1, ⟨hk.1.2, hk.2⟩⟩)), (by (with_reducible repeat (first | apply Kd.zO | apply Kd.zM | apply Kd.zS)); exact Kd.yF HO450.out (fun _ hk => ⟨hk.1.1.2, ⟨hk.1.2, hk.2⟩⟩)), (by (with_reducible repeat (first | apply Kd.zO | apply Kd.zM | apply Kd.zS)); exact Kd.yF HO454.out (fun _ hk => ⟨hk.1.1.2, ⟨hk.1.2, hk.2⟩⟩)), (by (with_reducible repeat (first | apply zC | apply zG | apply zD)); exact BK439.out), (by (with_reducible repeat (first | apply zC | apply zG | apply zD)); exact BK440.out), (by (with_reducible repeat (first | apply zC | apply zG | apply zD)); exact BK446.out), (by (with_reducible repeat (first | apply zC | apply zG | apply zD)); exact BK456.out), GW456.out, GE456.out, NB439_456.out, NB456_439.out, NB440_456.out, NB456_440.out, NB446_456.out, NB456_446.out, (by repeat (first | (with_reducible first | exact HB.out | apply zH | apply zI | apply zJ | refine zB ?_ GE439.out | refine zB ?_ GE440.out | refine zB ?_ GE446.out | refine zB ?_ GE456.out) | exact HB.out))⟩)
 rintro ⟨v449, v453, gb456⟩ w42 ⟨hS_, h0_, h1_, h2_, h3_, h4_, h5_, h6_, h7_, h8_, h9_, h10_, h11_, h12_, h13_, h14_, h15_, h16_⟩
 have n0_ : zA (Kd.R k57 57 w42 w.heap.size (fun k_ => some k_ ≠ (.slice Ao35 t442.length co35 : Value).ownBlock ∧ some k_ ≠ (v449 : Value).ownBlock ∧ some k_ ≠ (v453 : Value).ownBlock) (.slice Ao25 t436.length co25) t436) := ⟨h0_⟩
 have n1_ : zA (Kd.R k57 57 w42 w.heap.size (fun k_ => some k_ ≠ (.slice Ao25 t436.length co25 : Value).ownBlock ∧ some k_ ≠ (v449 : Value).ownBlock ∧ some k_ ≠ (v453 : Value).ownBlock) (.slice Ao35 t442.length co35) t442) := ⟨h1_⟩
 have n2_ : zA (Kd.R k57 57 w42 w.heap.size (fun k_ => some k_ ≠ (.slice Ao25 t436.length co25 : Value).ownBlock ∧ some k_ ≠ (.slice Ao35 t442.length co35 : Value).ownBlock ∧ some k_ ≠ (v453 : Value).ownBlock) v449 t448) := ⟨h2_⟩
 have n3_ : zA (Kd.R k57 57 w42 w.heap.size (fun k_ => some k_ ≠ (.slice Ao25 t436.length co25 : Value).ownBlock ∧ some k_ ≠ (.slice Ao35 t442.length co35 : Value).ownBlock ∧ some k_ ≠ (v449 : Value).ownBlock) v453 t452) := ⟨h3_⟩
 have n4_ : zA (w42.heap[gb439]? = some (.cells #[.int .i64 t435, .slice Ao25 t436.length co25] 24 (0, 0))) := ⟨h4_⟩
 have n5_ : zA (w42.heap[gb440]? = some (.cells #[.int .u64 (IntKind.u64.wrap (a0 + 7)), .int .i64 ((l1.length : Int) % 24)] 27 (0, 0))) := ⟨h5_⟩
 have n6_ : zA (w42.heap[gb446]? = some (.cells #[.int .i64 t441, .slice Ao35 t442.length co35] 24 (0, 0))) := ⟨h6_⟩
 have n7_ : zA (w42.heap[gb456]? = some (.cells #[.int .i64 0, .slice none 0 0] 24 (0, 0))) := ⟨h7_⟩
 have n8_ : zA (w.heap.size ≤ gb456) := ⟨h8_⟩
 have n9_ : zA (w.heap.size ≤ gb456) := ⟨h9_⟩
 have n10_ : zA (gb439 ≠ gb456) := ⟨h10_⟩
 have n11_ : zA (gb456 ≠ gb439) := ⟨h11_⟩
 have n12_ : zA (gb440 ≠ gb456) := ⟨h12_⟩
 have n13_ : zA (gb456 ≠ gb440) := ⟨h13_⟩
 have n14_ : zA (gb446 ≠ gb456) := ⟨h14_⟩
 have n15_ : zA (gb456 ≠ gb446) := ⟨h15_⟩
 have n16_ : zA (Below w.heap.size w w42) := ⟨h16_⟩
 clear HO438 HO444 BK439 BK440 BK446 HB; clear h0_ h1_ h2_ h3_ h4_ h5_ h6_ h7_ h8_ h9_ h10_ h11_ h12_ h13_ h14_ h15_ h16_; have HO438 := n0_; have HO444 := n1_; have HO450 := n2_; have HO454 := n3_; have BK439 := n4_; have BK440 := n5_; have BK446 := n6_; have BK456 := n7_; have GW456 := n8_; have GE456 := n9_; have NB439_456 := n10_; have NB456_439 := n11_; have NB440_456 := n12_; have NB456_440 := n13_; have NB446_456 := n14_; have NB456_446 := n15_; have HB := n16_; clear n0_ n1_ n2_ n3_ n4_ n5_ n6_ n7_ n8_ n9_ n10_ n11_ n12_ n13_ n14_ n15_ n16_
 have hHeld : w42.cell? ⟨gb439, 0, none⟩ = some (.int .i64 t435) ∧ w42.cell? ⟨gb439, 1, none⟩ = some (.slice Ao25 t436.length co25) ∧ w42.cell? ⟨gb440, 0, none⟩ = some (.int .u64 (IntKind.u64.wrap (a0 + 7))) ∧ w42.cell? ⟨gb440, 1, none⟩ = some (.int .i64 ((l1.length : Int) % 24)) := hS_
 obtain ⟨Ao44, co44, eo44⟩ := Kd.xV HO454.out
 (first | subst eo44 | (injection eo44 with f1_ f2_ f3_; have f4_ := f1_.symm; have f5_ := f3_.symm; clear f1_ f2_ f3_; subst f4_; subst f5_))
 refine xA (a' := ?_) ?_ ?_
 rotate_left
 ·simp only [kJ, Act.put, List.setIfInBounds_toArray, List.set_cons_zero, List.set_cons_succ]
  rfl
 refine one_ (i := 18) (N := none) #[true, true, true, true, true, true, true, true, true, true, true, true, true, true, true, true, true, true, true, false] rfl rfl (qW HT_.out (by kernel_rfl)) (by decide) (fun K hK => ?_)
 have hs43 : w42.cell? ⟨gb456, 0, none⟩ = some (.int .i64 0) := (zF BK456.out 0).trans rfl
 have hfs43 := zL BK456.out 0
 have hns43_0 := NB439_456.out; have hns43_1 := NB440_456.out; have hns43_2 := NB446_456.out; have hms43_0 := NB456_439.out; have hms43_1 := NB456_440.out; have hms43_2 := NB456_446.out
 have hs45 : w42.cell? ⟨gb456, 1, none⟩ = some (.slice none 0 0) := (zF BK456.out 1).trans rfl
 have hfs45 := zL BK456.out 1
 have hns45_0 := NB439_456.out; have hns45_1 := NB440_456.out; have hns45_2 := NB446_456.out; have hms45_0 := NB456_439.out; have hms45_1 := NB456_440.out; have hms45_2 := NB456_446.out
 refine zab (w1 := ?_) (by rfl) rfl ?_ ?_
 rotate_left
 ·go_simp
  rfl
 refine hK.out _ _ ⟨((cell_far (p := ⟨gb456, _, none⟩) NB439_456.out _).trans (((cell_far (p := ⟨gb456, _, none⟩) NB439_456.out _).trans (hHeld.1)))), ((cell_far (p := ⟨gb456, _, none⟩) NB439_456.out _).trans (((cell_far (p := ⟨gb456, _, none⟩) NB439_456.out _).trans (hHeld.2.1)))), ((cell_far (p := ⟨gb456, _, none⟩) NB440_456.out _).trans (((cell_far (p := ⟨gb456, _, none⟩) NB440_456.out _).trans (hHeld.2.2.1)))), ((cell_far (p := ⟨gb456, _, none⟩) NB440_456.out _).trans (((cell_far (p := ⟨gb456, _, none⟩) NB440_456.out _).trans (hHeld.2.2.2))))⟩ (fun hHeld => ?_)
 clear hK K
 refine yB (i := 19) (N := some 13) (v := ?_) (a' := ?_) #[true, true, true, true, true, true, true, true, true, true, true, true, true, true, true, true, true, true, true, true] rfl rfl (yJ HT_.out (by kernel_rfl)) (fun _ _ _ h => h) (Or.inl ⟨by rfl, ?_⟩) ?_ ?_
 rotate_left
 ·intro w'
  go_simp
  with_reducible rfl
 rotate_left
 ·simp only [Act.put, List.setIfInBounds_toArray, List.set_cons_zero, List.set_cons_succ, zU, zV]
  rfl
 refine vJ (zah HT_.out (by kernel_rfl)) ?_
 have hnb46 := NB439_456.out; have hnc46 := NB456_439.out; have hcz47_0 : w42.cell? ⟨gb439, 0, none⟩ = some (.int .i64 t435) := (zF BK439.out 0).trans rfl; have hcz47_1 : w42.cell? ⟨gb439, 1, none⟩ = some (.slice Ao25 t436.length co25) := (zF BK439.out 1).trans rfl; have hfz47_0 := zL BK439.out 0; have hfz47_1 := zL BK439.out 1; have hnb48 := NB440_456.out; have hnc48 := NB456_440.out; have hcz49_0 : w42.cell? ⟨gb440, 0, none⟩ = some (.int .u64 (IntKind.u64.wrap (a0 + 7))) := (zF BK440.out 0).trans rfl; have hcz49_1 : w42.cell? ⟨gb440, 1, none⟩ = some (.int .i64 ((l1.length : Int) % 24)) := (zF BK440.out 1).trans rfl; have hfz49_0 := zL BK440.out 0; have hfz49_1 := zL BK440.out 1
 try go_wp2_with (first | ((with_reducible refine yY (f := 13) rfl ?_); refine qX (some 59) rfl rfl Tryd.func13 (by kernel_rfl) rfl #[.agg #[.int .i64 t435, .slice Ao25 t436.length co25], .int .u64 a0, .int .i64 ((l1.length : Int) % 24)] rfl (by (try simp only [List.map_toArray, List.map_cons, List.map_nil]); first | done | rfl | (simp only [List.length_drop, List.length_take]; rfl)) ?_; (with_reducible refine (tree_Delete.calls t435 _ _ t436 a0 ((l1.length : Int) % 24) t457 t458 t461 _ ?side1 ?side2 (by first | exact hT | ((repeat (first | exact hT | apply Tm.Emp.drewN | apply Tm.Emp.drew)); done) | exact Tm.Emp.below hT (by repeat (first | (with_reducible first | exact HB.out | apply zH | apply zI | apply zJ | refine zB ?_ (zA.out (by assumption))) | exact HB.out))) A10.out).mono ?_); (case side1 => refine (Kd.yN (e := 57) (base := w.heap.size) (ok := fun k_ => (some k_ ≠ (.slice Ao35 t442.length co35 : Value).ownBlock ∧ (some k_ ≠ (v449 : Value).ownBlock ∧ some k_ ≠ (.slice Ao44 t452.length co44 : Value).ownBlock))) (n := t436.length) (c := co25) ?_).2.2; exact (by (with_reducible repeat (first | apply Kd.zO | apply Kd.zM | apply Kd.zS)); exact (Kd.yF (Kd.yH (p := ⟨gb456, 1, none⟩) (Kd.yH (p := ⟨gb456, 0, none⟩) (Kd.yR HO438.out BK456.out (by decide)) (fun _ hk => hk.2) (.int .i64 t451)) (fun _ hk => hk.2) (.slice Ao44 t452.length co44)) (fun _ h_ => h_.1)))); (case side2 => exact (Kd.yN HO438.out).2.1); rintro e w50 ⟨v459, rfl, ho0, hb⟩; refine ⟨_, rfl, ?_⟩; have n0_ := zA.mk (Kd.yD (by (with_reducible repeat (first | apply Kd.zO | apply Kd.zM | apply Kd.zS)); exact (Kd.yF (Kd.yH (p := ⟨gb456, 1, none⟩) (Kd.yH (p := ⟨gb456, 0, none⟩) (Kd.yR HO438.out BK456.out (by decide)) (fun _ hk => hk.2) (.int .i64 t451)) (fun _ hk => hk.2) (.slice Ao44 t452.length co44)) (fun _ h_ => h_.1))) (Kd.yQ ho0) hb); have n1_ := zA.mk (Kd.yD (by (with_reducible repeat (first | apply Kd.zO | apply Kd.zM | apply Kd.zS)); exact (Kd.yF (Kd.yH (p := ⟨gb456, 1, none⟩) (Kd.yH (p := ⟨gb456, 0, none⟩) (Kd.yR HO444.out BK456.out (by decide)) (fun _ hk => hk.2) (.int .i64 t451)) (fun _ hk => hk.2) (.slice Ao44 t452.length co44)) (fun _ h_ => h_.1))) (Kd.yQ ho0) hb); have n2_ := zA.mk (Kd.yD (by (with_reducible repeat (first | apply Kd.zO | apply Kd.zM | apply Kd.zS)); exact (Kd.yF (Kd.yH (p := ⟨gb456, 1, none⟩) (Kd.yH (p := ⟨gb456, 0, none⟩) (Kd.yR HO450.out BK456.out (by decide)) (fun _ hk => hk.2) (.int .i64 t451)) (fun _ hk => hk.2) (.slice Ao44 t452.length co44)) (fun _ h_ => h_.1))) (Kd.yQ ho0) hb); have n3_ := zA.mk (Kd.yD (by (with_reducible repeat (first | apply Kd.zO | apply Kd.zM | apply Kd.zS)); exact (Kd.yF (Kd.yH (p := ⟨gb456, 1, none⟩) (Kd.yH (p := ⟨gb456, 0, none⟩) (Kd.yR HO454.out BK456.out (by decide)) (fun _ hk => hk.2) (.int .i64 t451)) (fun _ hk => hk.2) (.slice Ao44 t452.length co44)) (fun _ h_ => h_.1))) (Kd.yQ ho0) hb); have n4_ := zA.mk (Kd.qB (Kd.yP (Kd.yP (Kd.yP (Kd.yP ho0 (Kd.R_lt (by (with_reducible repeat (first | apply Kd.zO | apply Kd.zM | apply Kd.zS)); exact (Kd.yF (Kd.yH (p := ⟨gb456, 1, none⟩) (Kd.yH (p := ⟨gb456, 0, none⟩) (Kd.yR HO438.out BK456.out (by decide)) (fun _ hk => hk.2) (.int .i64 t451)) (fun _ hk => hk.2) (.slice Ao44 t452.length co44)) (fun _ h_ => h_.1))))) (Kd.R_lt (by (with_reducible repeat (first | apply Kd.zO | apply Kd.zM | apply Kd.zS)); exact (Kd.yF (Kd.yH (p := ⟨gb456, 1, none⟩) (Kd.yH (p := ⟨gb456, 0, none⟩) (Kd.yR HO444.out BK456.out (by decide)) (fun _ hk => hk.2) (.int .i64 t451)) (fun _ hk => hk.2) (.slice Ao44 t452.length co44)) (fun _ h_ => h_.1))))) (Kd.R_lt (by (with_reducible repeat (first | apply Kd.zO | apply Kd.zM | apply Kd.zS)); exact (Kd.yF (Kd.yH (p := ⟨gb456, 1, none⟩) (Kd.yH (p := ⟨gb456, 0, none⟩) (Kd.yR HO450.out BK456.out (by decide)) (fun _ hk => hk.2) (.int .i64 t451)) (fun _ hk => hk.2) (.slice Ao44 t452.length co44)) (fun _ h_ => h_.1))))) (Kd.R_lt (by (with_reducible repeat (first | apply Kd.zO | apply Kd.zM | apply Kd.zS)); exact (Kd.yF (Kd.yH (p := ⟨gb456, 1, none⟩) (Kd.yH (p := ⟨gb456, 0, none⟩) (Kd.yR HO454.out BK456.out (by decide)) (fun _ hk => hk.2) (.int .i64 t451)) (fun _ hk => hk.2) (.slice Ao44 t452.length co44)) (fun _ h_ => h_.1))))) (zW (by repeat (first | (with_reducible first | exact HB.out | apply zH | apply zI | apply zJ | refine zB ?_ GE439.out | refine zB ?_ GE440.out | refine zB ?_ GE446.out | refine zB ?_ GE456.out) | exact HB.out)))); have n5_ := zA.mk (zK (g := gb439) (o := .cells #[.int .i64 t435, .slice Ao25 t436.length co25] 24 (0, 0)) (by (with_reducible repeat (first | apply zC | apply zG | apply zD)); refine zX ?_ NB439_456.out _; (with_reducible repeat (first | apply zC | apply zG | apply zD)); refine zX ?_ NB439_456.out _; (with_reducible repeat (first | apply zC | apply zG | apply zD)); exact BK439.out) hb); have n6_ := zA.mk (zK (g := gb440) (o := .cells #[.int .u64 (IntKind.u64.wrap (a0 + 7)), .int .i64 ((l1.length : Int) % 24)] 27 (0, 0)) (by (with_reducible repeat (first | apply zC | apply zG | apply zD)); refine zX ?_ NB440_456.out _; (with_reducible repeat (first | apply zC | apply zG | apply zD)); refine zX ?_ NB440_456.out _; (with_reducible repeat (first | apply zC | apply zG | apply zD)); exact BK440.out) hb); have n7_ := zA.mk (zK (g := gb446) (o := .cells #[.int .i64 t441, .slice Ao35 t442.length co35] 24 (0, 0)) (by (with_reducible repeat (first | apply zC | apply zG | apply zD)); refine zX ?_ NB446_456.out _; (with_reducible repeat (first | apply zC | apply zG | apply zD)); refine zX ?_ NB446_456.out _; (with_reducible repeat (first | apply zC | apply zG | apply zD)); exact BK446.out) hb); have n8_ := zA.mk (zK (g := gb456) (o := .cells #[.int .i64 t451, .slice Ao44 t452.length co44] 24 (0, 0)) (by (with_reducible repeat (first | apply zC | apply zG | apply zD)); refine yK (cs := #[.int .i64 t451, .slice none 0 0]) ?_ 1 _ rfl; (with_reducible repeat (first | apply zC | apply zG | apply zD)); refine yK (cs := #[.int .i64 0, .slice none 0 0]) ?_ 0 _ rfl; (with_reducible repeat (first | apply zC | apply zG | apply zD)); exact BK456.out) hb); have n9_ := zA.mk (zT (by repeat (first | (with_reducible first | exact HB.out | apply zH | apply zI | apply zJ | refine zB ?_ GE439.out | refine zB ?_ GE440.out | refine zB ?_ GE446.out | refine zB ?_ GE456.out) | exact HB.out)) hb); clear HO438 HO444 HO450 HO454 BK439 BK440 BK446 BK456 HB; have HO438 := n0_; have HO444 := n1_; have HO450 := n2_; have HO454 := n3_; have HO460 := n4_; have BK439 := n5_; have BK440 := n6_; have BK446 := n7_; have BK456 := n8_; have HB := n9_; clear n0_ n1_ n2_ n3_ n4_ n5_ n6_ n7_ n8_ n9_; (try clear hb); (try clear hb2); (try clear hk); (try clear hi); (try clear ho0)) | ((with_reducible refine xJ (N := 14) rfl ?_); refine xC ?hg (N := 14) ?hd (cs := #[.int .i64 0, .slice none 0 0]) (t := 24) ?hr ?_; (case hd => rfl); (case hg => rfl); (case hr => first | (go_simp; done) | (go_simp; rfl)); intro gb462 hg w51 hbox hb; have n0_ := zA.mk (Kd.yG (by (with_reducible repeat (first | apply Kd.zO | apply Kd.zM | apply Kd.zS)); exact HO438.out) hb); have n1_ := zA.mk (Kd.yG (by (with_reducible repeat (first | apply Kd.zO | apply Kd.zM | apply Kd.zS)); exact HO444.out) hb); have n2_ := zA.mk (Kd.yG (by (with_reducible repeat (first | apply Kd.zO | apply Kd.zM | apply Kd.zS)); exact HO450.out) hb); have n3_ := zA.mk (Kd.yG (by (with_reducible repeat (first | apply Kd.zO | apply Kd.zM | apply Kd.zS)); exact HO454.out) hb); have n4_ := zA.mk (Kd.yG (by (with_reducible repeat (first | apply Kd.zO | apply Kd.zM | apply Kd.zS)); exact HO460.out) hb); have n5_ := zA.mk (zK (g := gb439) (o := .cells #[.int .i64 t435, .slice Ao25 t436.length co25] 24 (0, 0)) (by (with_reducible repeat (first | apply zC | apply zG | apply zD)); exact BK439.out) hb); have n6_ := zA.mk (zK (g := gb440) (o := .cells #[.int .u64 (IntKind.u64.wrap (a0 + 7)), .int .i64 ((l1.length : Int) % 24)] 27 (0, 0)) (by (with_reducible repeat (first | apply zC | apply zG | apply zD)); exact BK440.out) hb); have n7_ := zA.mk (zK (g := gb446) (o := .cells #[.int .i64 t441, .slice Ao35 t442.length co35] 24 (0, 0)) (by (with_reducible repeat (first | apply zC | apply zG | apply zD)); exact BK446.out) hb); have n8_ := zA.mk (zK (g := gb456) (o := .cells #[.int .i64 t451, .slice Ao44 t452.length co44] 24 (0, 0)) (by (with_reducible repeat (first | apply zC | apply zG | apply zD)); exact BK456.out) hb); have n9_ := zA.mk (zT (by repeat (first | (with_reducible first | exact HB.out | apply zH | apply zI | apply zJ | refine zB ?_ GE439.out | refine zB ?_ GE440.out | refine zB ?_ GE446.out | refine zB ?_ GE456.out) | exact HB.out)) hb); have n10_ := zA.mk (hbox); have n11_ := zA.mk ((by rw [hg]; exact (zW (by repeat (first | (with_reducible first | exact HB.out | apply zH | apply zI | apply zJ | refine zB ?_ GE439.out | refine zB ?_ GE440.out | refine zB ?_ GE446.out | refine zB ?_ GE456.out) | exact HB.out))) : w.heap.size ≤ gb462)); have n12_ := zA.mk ((by rw [hg]; exact (zW (by repeat (first | (with_reducible first | exact HB.out | apply zH | apply zI | apply zJ | refine zB ?_ GE439.out | refine zB ?_ GE440.out | refine zB ?_ GE446.out | refine zB ?_ GE456.out) | exact HB.out))) : w.heap.size ≤ gb462)); have n13_ := zA.mk ((by rw [hg]; exact Nat.ne_of_lt (yA (g := gb439) (o := .cells #[.int .i64 t435, .slice Ao25 t436.length co25] 24 (0, 0)) (by (with_reducible repeat (first | apply zC | apply zG | apply zD)); exact BK439.out)) : gb439 ≠ gb462)); have n14_ := zA.mk ((by rw [hg]; exact Nat.ne_of_gt (yA (g := gb439) (o := .cells #[.int .i64 t435, .slice Ao25 t436.length co25] 24 (0, 0)) (by (with_reducible repeat (first | apply zC | apply zG | apply zD)); exact BK439.out)) : gb462 ≠ gb439)); have n15_ := zA.mk ((by rw [hg]; exact Nat.ne_of_lt (yA (g := gb440) (o := .cells #[.int .u64 (IntKind.u64.wrap (a0 + 7)), .int .i64 ((l1.length : Int) % 24)] 27 (0, 0)) (by (with_reducible repeat (first | apply zC | apply zG | apply zD)); exact BK440.out)) : gb440 ≠ gb462)); have n16_ := zA.mk ((by rw [hg]; exact Nat.ne_of_gt (yA (g := gb440) (o := .cells #[.int .u64 (IntKind.u64.wrap (a0 + 7)), .int .i64 ((l1.length : Int) % 24)] 27 (0, 0)) (by (with_reducible repeat (first | apply zC | apply zG | apply zD)); exact BK440.out)) : gb462 ≠ gb440)); have n17_ := zA.mk ((by rw [hg]; exact Nat.ne_of_lt (yA (g := gb446) (o := .cells #[.int .i64 t441, .slice Ao35 t442.length co35] 24 (0, 0)) (by (with_reducible repeat (first | apply zC | apply zG | apply zD)); exact BK446.out)) : gb446 ≠ gb462)); have n18_ := zA.mk ((by rw [hg]; exact Nat.ne_of_gt (yA (g := gb446) (o := .cells #[.int .i64 t441, .slice Ao35 t442.length co35] 24 (0, 0)) (by (with_reducible repeat (first | apply zC | apply zG | apply zD)); exact BK446.out)) : gb462 ≠ gb446)); have n19_ := zA.mk ((by rw [hg]; exact Nat.ne_of_lt (yA (g := gb456) (o := .cells #[.int .i64 t451, .slice Ao44 t452.length co44] 24 (0, 0)) (by (with_reducible repeat (first | apply zC | apply zG | apply zD)); exact BK456.out)) : gb456 ≠ gb462)); have n20_ := zA.mk ((by rw [hg]; exact Nat.ne_of_gt (yA (g := gb456) (o := .cells #[.int .i64 t451, .slice Ao44 t452.length co44] 24 (0, 0)) (by (with_reducible repeat (first | apply zC | apply zG | apply zD)); exact BK456.out)) : gb462 ≠ gb456)); clear HO438 HO444 HO450 HO454 HO460 BK439 BK440 BK446 BK456 HB; have HO438 := n0_; have HO444 := n1_; have HO450 := n2_; have HO454 := n3_; have HO460 := n4_; have BK439 := n5_; have BK440 := n6_; have BK446 := n7_; have BK456 := n8_; have HB := n9_; have BK462 := n10_; have GW462 := n11_; have GE462 := n12_; have NB439_462 := n13_; have NB462_439 := n14_; have NB440_462 := n15_; have NB462_440 := n16_; have NB446_462 := n17_; have NB462_446 := n18_; have NB456_462 := n19_; have NB462_456 := n20_; clear n0_ n1_ n2_ n3_ n4_ n5_ n6_ n7_ n8_ n9_ n10_ n11_ n12_ n13_ n14_ n15_ n16_ n17_ n18_ n19_ n20_; clear hb hbox hg; have hnb52 := NB462_439.out; have hnc52 := NB439_462.out; have hnb53 := NB462_440.out; have hnc53 := NB440_462.out; have hnb54 := NB462_446.out; have hnc54 := NB446_462.out; have hnb55 := NB462_456.out; have hnc55 := NB456_462.out; have hcz56_0 : w51.cell? ⟨gb462, 0, none⟩ = some (.int .i64 0) := (zF BK462.out 0).trans rfl; have hcz56_1 : w51.cell? ⟨gb462, 1, none⟩ = some (.slice none 0 0) := (zF BK462.out 1).trans rfl; have hfz56_0 := zL BK462.out 0; have hfz56_1 := zL BK462.out 1; obtain ⟨Ao57, co57, eo57⟩ := Kd.xV HO460.out; subst eo57))
 have n0_ : zA (Kd.R k57 57 ((w51.setCell ⟨gb462, 0, none⟩ (.int .i64 t457)).setCell ⟨gb462, 1, none⟩ (.slice Ao57 t458.length co57)) w.heap.size (fun k_ => some k_ ≠ (.slice Ao35 t442.length co35 : Value).ownBlock ∧ some k_ ≠ (v449 : Value).ownBlock ∧ some k_ ≠ (.slice Ao44 t452.length co44 : Value).ownBlock ∧ some k_ ≠ (.slice Ao57 t458.length co57 : Value).ownBlock) (.slice Ao25 t436.length co25) t436) := ⟨by (with_reducible repeat (first | apply Kd.zO | apply Kd.zM | apply Kd.zS)); exact Kd.yF (Kd.yH (p := ⟨gb462, 1, none⟩) (Kd.yH (p := ⟨gb462, 0, none⟩) (Kd.yR HO438.out BK462.out (by decide)) (fun _ hk => hk.2) (.int .i64 t457)) (fun _ hk => hk.2) (.slice Ao57 t458.length co57)) (fun _ hk => ⟨hk.1.1.1, ⟨hk.1.1.2.1, ⟨hk.1.1.2.2, hk.1.2⟩⟩⟩)⟩
 have n1_ : zA (Kd.R k57 57 ((w51.setCell ⟨gb462, 0, none⟩ (.int .i64 t457)).setCell ⟨gb462, 1, none⟩ (.slice Ao57 t458.length co57)) w.heap.size (fun k_ => some k_ ≠ (.slice Ao25 t436.length co25 : Value).ownBlock ∧ some k_ ≠ (v449 : Value).ownBlock ∧ some k_ ≠ (.slice Ao44 t452.length co44 : Value).ownBlock ∧ some k_ ≠ (.slice Ao57 t458.length co57 : Value).ownBlock) (.slice Ao35 t442.length co35) t442) := ⟨by (with_reducible repeat (first | apply Kd.zO | apply Kd.zM | apply Kd.zS)); exact Kd.yF (Kd.yH (p := ⟨gb462, 1, none⟩) (Kd.yH (p := ⟨gb462, 0, none⟩) (Kd.yR HO444.out BK462.out (by decide)) (fun _ hk => hk.2) (.int .i64 t457)) (fun _ hk => hk.2) (.slice Ao57 t458.length co57)) (fun _ hk => ⟨hk.1.1.1, ⟨hk.1.1.2.1, ⟨hk.1.1.2.2, hk.1.2⟩⟩⟩)⟩
 have n2_ : zA (Kd.R k57 57 ((w51.setCell ⟨gb462, 0, none⟩ (.int .i64 t457)).setCell ⟨gb462, 1, none⟩ (.slice Ao57 t458.length co57)) w.heap.size (fun k_ => some k_ ≠ (.slice Ao25 t436.length co25 : Value).ownBlock ∧ some k_ ≠ (.slice Ao35 t442.length co35 : Value).ownBlock ∧ some k_ ≠ (.slice Ao44 t452.length co44 : Value).ownBlock ∧ some k_ ≠ (.slice Ao57 t458.length co57 : Value).ownBlock) v449 t448) := ⟨by (with_reducible repeat (first | apply Kd.zO | apply Kd.zM | apply Kd.zS)); exact Kd.yF (Kd.yH (p := ⟨gb462, 1, none⟩) (Kd.yH (p := ⟨gb462, 0, none⟩) (Kd.yR HO450.out BK462.out (by decide)) (fun _ hk => hk.2) (.int .i64 t457)) (fun _ hk => hk.2) (.slice Ao57 t458.length co57)) (fun _ hk => ⟨hk.1.1.1, ⟨hk.1.1.2.1, ⟨hk.1.1.2.2, hk.1.2⟩⟩⟩)⟩
 have n3_ : zA (Kd.R k57 57 ((w51.setCell ⟨gb462, 0, none⟩ (.int .i64 t457)).setCell ⟨gb462, 1, none⟩ (.slice Ao57 t458.length co57)) w.heap.size (fun k_ => some k_ ≠ (.slice Ao25 t436.length co25 : Value).ownBlock ∧ some k_ ≠ (.slice Ao35 t442.length co35 : Value).ownBlock ∧ some k_ ≠ (v449 : Value).ownBlock ∧ some k_ ≠ (.slice Ao57 t458.length co57 : Value).ownBlock) (.slice Ao44 t452.length co44) t452) := ⟨by (with_reducible repeat (first | apply Kd.zO | apply Kd.zM | apply Kd.zS)); exact Kd.yF (Kd.yH (p := ⟨gb462, 1, none⟩) (Kd.yH (p := ⟨gb462, 0, none⟩) (Kd.yR HO454.out BK462.out (by decide)) (fun _ hk => hk.2) (.int .i64 t457)) (fun _ hk => hk.2) (.slice Ao57 t458.length co57)) (fun _ hk => ⟨hk.1.1.1, ⟨hk.1.1.2.1, ⟨hk.1.1.2.2, hk.1.2⟩⟩⟩)⟩
 have n4_ : zA (Kd.R k57 57 ((w51.setCell ⟨gb462, 0, none⟩ (.int .i64 t457)).setCell ⟨gb462, 1, none⟩ (.slice Ao57 t458.length co57)) w.heap.size (fun k_ => some k_ ≠ (.slice Ao25 t436.length co25 : Value).ownBlock ∧ some k_ ≠ (.slice Ao35 t442.length co35 : Value).ownBlock ∧ some k_ ≠ (v449 : Value).ownBlock ∧ some k_ ≠ (.slice Ao44 t452.length co44 : Value).ownBlock) (.slice Ao57 t458.length co57) t458) := ⟨by (with_reducible repeat (first | apply Kd.zO | apply Kd.zM | apply Kd.zS)); exact Kd.yF (Kd.yH (p := ⟨gb462, 1, none⟩) (Kd.yH (p := ⟨gb462, 0, none⟩) (Kd.yR HO460.out BK462.out (by decide)) (fun _ hk => hk.2) (.int .i64 t457)) (fun _ hk => hk.2) (.slice Ao57 t458.length co57)) (fun _ hk => ⟨hk.1.1.1.1.2, ⟨hk.1.1.1.2, ⟨hk.1.1.2, hk.1.2⟩⟩⟩)⟩
 have n5_ : zA (((w51.setCell ⟨gb462, 0, none⟩ (.int .i64 t457)).setCell ⟨gb462, 1, none⟩ (.slice Ao57 t458.length co57)).heap[gb439]? = some (.cells #[.int .i64 t435, .slice Ao25 t436.length co25] 24 (0, 0))) := ⟨by (with_reducible repeat (first | apply zC | apply zG | apply zD)); refine zX ?_ NB439_462.out _; (with_reducible repeat (first | apply zC | apply zG | apply zD)); refine zX ?_ NB439_462.out _; (with_reducible repeat (first | apply zC | apply zG | apply zD)); exact BK439.out⟩
 have n6_ : zA (((w51.setCell ⟨gb462, 0, none⟩ (.int .i64 t457)).setCell ⟨gb462, 1, none⟩ (.slice Ao57 t458.length co57)).heap[gb440]? = some (.cells #[.int .u64 (IntKind.u64.wrap (a0 + 7)), .int .i64 ((l1.length : Int) % 24)] 27 (0, 0))) := ⟨by (with_reducible repeat (first | apply zC | apply zG | apply zD)); refine zX ?_ NB440_462.out _; (with_reducible repeat (first | apply zC | apply zG | apply zD)); refine zX ?_ NB440_462.out _; (with_reducible repeat (first | apply zC | apply zG | apply zD)); exact BK440.out⟩
 have n7_ : zA (((w51.setCell ⟨gb462, 0, none⟩ (.int .i64 t457)).setCell ⟨gb462, 1, none⟩ (.slice Ao57 t458.length co57)).heap[gb446]? = some (.cells #[.int .i64 t441, .slice Ao35 t442.length co35] 24 (0, 0))) := ⟨by (with_reducible repeat (first | apply zC | apply zG | apply zD)); refine zX ?_ NB446_462.out _; (with_reducible repeat (first | apply zC | apply zG | apply zD)); refine zX ?_ NB446_462.out _; (with_reducible repeat (first | apply zC | apply zG | apply zD)); exact BK446.out⟩
 have n8_ : zA (((w51.setCell ⟨gb462, 0, none⟩ (.int .i64 t457)).setCell ⟨gb462, 1, none⟩ (.slice Ao57 t458.length co57)).heap[gb456]? = some (.cells #[.int .i64 t451, .slice Ao44 t452.length co44] 24 (0, 0))) := ⟨by (with_reducible repeat (first | apply zC | apply zG | apply zD)); refine zX ?_ NB456_462.out _; (with_reducible repeat (first | apply zC | apply zG | apply zD)); refine zX ?_ NB456_462.out _; (with_reducible repeat (first | apply zC | apply zG | apply zD)); exact BK456.out⟩
 have n9_ : zA (((w51.setCell ⟨gb462, 0, none⟩ (.int .i64 t457)).setCell ⟨gb462, 1, none⟩ (.slice Ao57 t458.length co57)).heap[gb462]? = some (.cells #[.int .i64 t457, .slice Ao57 t458.length co57] 24 (0, 0))) := ⟨by (with_reducible repeat (first | apply zC | apply zG | apply zD)); refine yK (cs := #[.int .i64 t457, .slice none 0 0]) ?_ 1 _ rfl; (with_reducible repeat (first | apply zC | apply zG | apply zD)); refine yK (cs := #[.int .i64 0, .slice none 0 0]) ?_ 0 _ rfl; (with_reducible repeat (first | apply zC | apply zG | apply zD)); exact BK462.out⟩
 have n10_ : zA (Below w.heap.size w ((w51.setCell ⟨gb462, 0, none⟩ (.int .i64 t457)).setCell ⟨gb462, 1, none⟩ (.slice Ao57 t458.length co57))) := ⟨by repeat (first | (with_reducible first | exact HB.out | apply zH | apply zI | apply zJ | refine zB ?_ GE439.out | refine zB ?_ GE440.out | refine zB ?_ GE446.out | refine zB ?_ GE456.out | refine zB ?_ GE462.out) | exact HB.out)⟩
 (try clear HO438)
 (try clear HO444)
 (try clear HO450)
 (try clear HO454)
 (try clear HO460)
 (try clear BK439)
 (try clear BK440)
 (try clear BK446)
 (try clear BK456)
 (try clear BK462)
 (try clear HB)
 generalize ((w51.setCell ⟨gb462, 0, none⟩ (.int .i64 t457)).setCell ⟨gb462, 1, none⟩ (.slice Ao57 t458.length co57)) = w58 at n0_ n1_ n2_ n3_ n4_ n5_ n6_ n7_ n8_ n9_ n10_ ⊢
 have HO438 := n0_; have HO444 := n1_; have HO450 := n2_; have HO454 := n3_; have HO460 := n4_; have BK439 := n5_; have BK440 := n6_; have BK446 := n7_; have BK456 := n8_; have BK462 := n9_; have HB := n10_; clear n0_ n1_ n2_ n3_ n4_ n5_ n6_ n7_ n8_ n9_ n10_
 have n0_ := zA.mk (Kd.zS HO438.out)
 have n1_ := zA.mk (Kd.zS HO444.out)
 have n2_ := zA.mk (Kd.zS HO450.out)
 have n3_ := zA.mk (Kd.zS HO454.out)
 have n4_ := zA.mk (Kd.zS HO460.out)
 have n5_ := zA.mk (zG BK439.out)
 have n6_ := zA.mk (zG BK440.out)
 have n7_ := zA.mk (zG BK446.out)
 have n8_ := zA.mk (zG BK456.out)
 have n9_ := zA.mk (zG BK462.out)
 have n10_ := zA.mk (zJ HB.out)
 clear HO438 HO444 HO450 HO454 HO460 BK439 BK440 BK446 BK456 BK462 HB; have HO438 := n0_; have HO444 := n1_; have HO450 := n2_; have HO454 := n3_; have HO460 := n4_; have BK439 := n5_; have BK440 := n6_; have BK446 := n7_; have BK456 := n8_; have BK462 := n9_; have HB := n10_; clear n0_ n1_ n2_ n3_ n4_ n5_ n6_ n7_ n8_ n9_ n10_
 refine jQ (n := 15) (S := fun w' => w'.cell? ⟨gb439, 0, none⟩ = some (.int .i64 t435) ∧ w'.cell? ⟨gb439, 1, none⟩ = some (.slice Ao25 t436.length co25) ∧ w'.cell? ⟨gb440, 0, none⟩ = some (.int .u64 (IntKind.u64.wrap (a0 + 7))) ∧ w'.cell? ⟨gb440, 1, none⟩ = some (.int .i64 ((l1.length : Int) % 24))) (ds := []) #[false, false, false, false, false, false, false, false, false, false, false, false, false, false, false] (by kernel_rfl) rfl rfl ⟨(zF BK439.out 0).trans rfl, (zF BK439.out 1).trans rfl, (zF BK440.out 0).trans rfl, (zF BK440.out 1).trans rfl⟩ (fun hHeld => ?_); refine wK turnspitlaw09_TreeTurns.tab9 turnspitlaw09_TreeTurns.bits9 (fun HT_ HW_ => ?_)
 generalize w58.drew = w59 at HO438 HO444 HO450 HO454 HO460 BK439 BK440 BK446 BK456 BK462 HB hHeld ⊢
 refine yB (i := 1) (N := some 64) (v := ?_) (a' := ?_) #[false, true, false, false, false, false, false, false, false, false, false, false, false, false, false] rfl rfl (yJ HT_.out (by kernel_rfl)) (fun _ _ _ h => h) (Or.inl ⟨by rfl, ?_⟩) ?_ ?_
 rotate_left
 ·intro w'
  go_simp
  with_reducible rfl
 rotate_left
 ·simp only [Act.put, List.setIfInBounds_toArray, List.set_cons_zero, List.set_cons_succ, zU, zV]
  rfl
 refine yB (i := 3) (N := some 66) (v := ?_) (a' := ?_) #[false, true, false, true, false, false, false, false, false, false, false, false, false, false, false] rfl rfl (yJ HT_.out (by kernel_rfl)) (fun _ _ _ h => h) (Or.inl ⟨by rfl, ?_⟩) ?_ ?_
 rotate_left
 ·intro w'
  go_simp
  with_reducible rfl
 rotate_left
 ·simp only [Act.put, List.setIfInBounds_toArray, List.set_cons_zero, List.set_cons_succ, zU, zV]
  rfl
 refine yB (i := 4) (N := some 67) (v := ?_) (a' := ?_) #[false, true, false, true, true, false, false, false, false, false, false, false, false, false, false] rfl rfl (yJ HT_.out (by kernel_rfl)) (fun _ _ _ h => h) (Or.inl ⟨by rfl, ?_⟩) ?_ ?_
 rotate_left
 ·intro w'
  go_simp
  with_reducible rfl
 rotate_left
 ·simp only [Act.put, List.setIfInBounds_toArray, List.set_cons_zero, List.set_cons_succ, zU, zV]
  rfl
 refine yB (i := 5) (N := some 68) (v := ?_) (a' := ?_) #[false, true, false, true, true, true, false, false, false, false, false, false, false, false, false] rfl rfl (yJ HT_.out (by kernel_rfl)) (fun _ _ _ h => h) (Or.inl ⟨by rfl, ?_⟩) ?_ ?_
 rotate_left
 ·intro w'
  go_simp
  with_reducible rfl
 rotate_left
 ·simp only [Act.put, List.setIfInBounds_toArray, List.set_cons_zero, List.set_cons_succ, zU, zV]
  rfl
 refine yB (i := 6) (N := some 69) (v := ?_) (a' := ?_) #[false, true, false, true, true, true, true, false, false, false, false, false, false, false, false] rfl rfl (yJ HT_.out (by kernel_rfl)) (fun _ _ _ h => h) (Or.inl ⟨by rfl, ?_⟩) ?_ ?_
 rotate_left
 ·intro w'
  go_simp
  with_reducible rfl
 rotate_left
 ·simp only [Act.put, List.setIfInBounds_toArray, List.set_cons_zero, List.set_cons_succ, zU, zV]
  rfl
 refine x9 (i := 0) (N := some 63) (v := ?_) (a' := ?_) #[true, true, false, true, true, true, true, false, false, false, false, false, false, false, false] rfl rfl (jB HT_.out HW_.out (by kernel_rfl)) (fun _ _ _ h => h) (Or.inl ⟨by rfl, ?_⟩) hHeld ?_ ?_
 rotate_left
 ·rintro w' ⟨s0, s1, s2, s3⟩
  go_simp
  with_reducible rfl
 rotate_left
 ·simp only [Act.put, List.setIfInBounds_toArray, List.set_cons_zero, List.set_cons_succ, zU, zV]
  rfl
 refine x9 (i := 7) (N := some 70) (v := ?_) (a' := ?_) #[true, true, false, true, true, true, true, true, false, false, false, false, false, false, false] rfl rfl (jB HT_.out HW_.out (by kernel_rfl)) (fun _ _ _ h => h) (Or.inl ⟨by rfl, ?_⟩) hHeld ?_ ?_
 rotate_left
 ·rintro w' ⟨s0, s1, s2, s3⟩
  go_simp
  with_reducible rfl
 rotate_left
 ·simp only [Act.put, List.setIfInBounds_toArray, List.set_cons_zero, List.set_cons_succ, zU, zV]
  rfl
 refine join_ (σ := Value × Value × Nat) 2 #[true, true, true, true, true, true, true, true, true, true, true, true, true, false, false] (fun s_ => [(65, .agg #[.int .i64 t463, s_.1]), (71, .tuple #[.agg #[.int .i64 t467, s_.2.1], .int .i64 t471]), (16, .pointer (some ⟨s_.2.2, 0, none⟩)), (62, .tuple #[.agg #[.int .i64 t467, s_.2.1], .int .i64 t471]), (72, .agg #[.int .i64 t467, s_.2.1]), (73, .int .i64 t471)]) (fun s_ w' => (w'.cell? ⟨gb439, 0, none⟩ = some (.int .i64 t435) ∧ w'.cell? ⟨gb439, 1, none⟩ = some (.slice Ao25 t436.length co25) ∧ w'.cell? ⟨gb440, 0, none⟩ = some (.int .u64 (IntKind.u64.wrap (a0 + 7))) ∧ w'.cell? ⟨gb440, 1, none⟩ = some (.int .i64 ((l1.length : Int) % 24))) ∧ (Kd.R k57 57 w' w.heap.size (fun k_ => some k_ ≠ (.slice Ao35 t442.length co35 : Value).ownBlock ∧ some k_ ≠ (v449 : Value).ownBlock ∧ some k_ ≠ (.slice Ao44 t452.length co44 : Value).ownBlock ∧ some k_ ≠ (.slice Ao57 t458.length co57 : Value).ownBlock ∧ some k_ ≠ (s_.1 : Value).ownBlock ∧ some k_ ≠ (s_.2.1 : Value).ownBlock) (.slice Ao25 t436.length co25) t436) ∧ (Kd.R k57 57 w' w.heap.size (fun k_ => some k_ ≠ (.slice Ao25 t436.length co25 : Value).ownBlock ∧ some k_ ≠ (v449 : Value).ownBlock ∧ some k_ ≠ (.slice Ao44 t452.length co44 : Value).ownBlock ∧ some k_ ≠ (.slice Ao57 t458.length co57 : Value).ownBlock ∧ some k_ ≠ (s_.1 : Value).ownBlock ∧ some k_ ≠ (s_.2.1 : Value).ownBlock) (.slice Ao35 t442.length co35) t442) ∧ (Kd.R k57 57 w' w.heap.size (fun k_ => some k_ ≠ (.slice Ao25 t436.length co25 : Value).ownBlock ∧ some k_ ≠ (.slice Ao35 t442.length co35 : Value).ownBlock ∧ some k_ ≠ (.slice Ao44 t452.length co44 : Value).ownBlock ∧ some k_ ≠ (.slice Ao57 t458.length co57 : Value).ownBlock ∧ some k_ ≠ (s_.1 : Value).ownBlock ∧ some k_ ≠ (s_.2.1 : Value).ownBlock) v449 t448) ∧ (Kd.R k57 57 w' w.heap.size (fun k_ => some k_ ≠ (.slice Ao25 t436.length co25 : Value).ownBlock ∧ some k_ ≠ (.slice Ao35 t442.length co35 : Value).ownBlock ∧ some k_ ≠ (v449 : Value).ownBlock ∧ some k_ ≠ (.slice Ao57 t458.length co57 : Value).ownBlock ∧ some k_ ≠ (s_.1 : Value).ownBlock ∧ some k_ ≠ (s_.2.1 : Value).ownBlock) (.slice Ao44 t452.length co44) t452) ∧ (Kd.R k57 57 w' w.heap.size (fun k_ => some k_ ≠ (.slice Ao25 t436.length co25 : Value).ownBlock ∧ some k_ ≠ (.slice Ao35 t442.length co35 : Value).ownBlock ∧ some k_ ≠ (v449 : Value).ownBlock ∧ some k_ ≠ (.slice Ao44 t452.length co44 : Value).ownBlock ∧ some k_ ≠ (s_.1 : Value).ownBlock ∧ some k_ ≠ (s_.2.1 : Value).ownBlock) (.slice Ao57 t458.length co57) t458) ∧ (Kd.R k57 57 w' w.heap.size (fun k_ => some k_ ≠ (.slice Ao25 t436.length co25 : Value).ownBlock ∧ some k_ ≠ (.slice Ao35 t442.length co35 : Value).ownBlock ∧ some k_ ≠ (v449 : Value).ownBlock ∧ some k_ ≠ (.slice Ao44 t452.length co44 : Value).ownBlock ∧ some k_ ≠ (.slice Ao57 t458.length co57 : Value).ownBlock ∧ some k_ ≠ (s_.2.1 : Value).ownBlock) s_.1 t464) ∧ (Kd.R k57 57 w' w.heap.size (fun k_ => some k_ ≠ (.slice Ao25 t436.length co25 : Value).ownBlock ∧ some k_ ≠ (.slice Ao35 t442.length co35 : Value).ownBlock ∧ some k_ ≠ (v449 : Value).ownBlock ∧ some k_ ≠ (.slice Ao44 t452.length co44 : Value).ownBlock ∧ some k_ ≠ (.slice Ao57 t458.length co57 : Value).ownBlock ∧ some k_ ≠ (s_.1 : Value).ownBlock) s_.2.1 t468) ∧ (w'.heap[gb439]? = some (.cells #[.int .i64 t435, .slice Ao25 t436.length co25] 24 (0, 0))) ∧ (w'.heap[gb440]? = some (.cells #[.int .u64 (IntKind.u64.wrap (a0 + 7)), .int .i64 ((l1.length : Int) % 24)] 27 (0, 0))) ∧ (w'.heap[gb446]? = some (.cells #[.int .i64 t441, .slice Ao35 t442.length co35] 24 (0, 0))) ∧ (w'.heap[gb456]? = some (.cells #[.int .i64 t451, .slice Ao44 t452.length co44] 24 (0, 0))) ∧ (w'.heap[gb462]? = some (.cells #[.int .i64 t457, .slice Ao57 t458.length co57] 24 (0, 0))) ∧ (w'.heap[s_.2.2]? = some (.cells #[.int .i64 0, .slice none 0 0] 24 (0, 0))) ∧ (w.heap.size ≤ s_.2.2) ∧ (w.heap.size ≤ s_.2.2) ∧ (gb439 ≠ s_.2.2) ∧ (s_.2.2 ≠ gb439) ∧ (gb440 ≠ s_.2.2) ∧ (s_.2.2 ≠ gb440) ∧ (gb446 ≠ s_.2.2) ∧ (s_.2.2 ≠ gb446) ∧ (gb456 ≠ s_.2.2) ∧ (s_.2.2 ≠ gb456) ∧ (gb462 ≠ s_.2.2) ∧ (s_.2.2 ≠ gb462) ∧ (Below w.heap.size w w')) ?_ ?_
 rotate_left
 ·intro hCont
  refine two_ (i := 2) (j := 12) (Ni := some 65) (Nj := some 16) #[true, true, true, true, true, true, true, true, false, false, false, false, false, false, false] #[true, true, false, true, true, true, true, true, false, false, false, false, true, false, false] rfl rfl rfl rfl (two_of HT_.out (by kernel_rfl)) (by decide) (by decide) (fun K hK => ?_) (fun K hK => ?_)
  ·skip
   refine qF Tryd.func31 (by kernel_rfl) rfl #[.agg #[.int .i64 t435, .slice Ao25 t436.length co25], .int .u64 a2] (by rfl) rfl rfl (by (try simp only [List.map_toArray, List.map_cons, List.map_nil]); first | done | rfl | (simp only [List.length_drop, List.length_take]; rfl)) ?_
   with_reducible refine (turnspitlaw09_turned.calls k t435 _ _ t436 a2 t463 t464 _ ?side1 ?side2 (by first | exact hT | ((repeat (first | exact hT | apply Tm.Emp.drewN | apply Tm.Emp.drew)); done) | exact Tm.Emp.below hT (by repeat (first | (with_reducible first | exact HB.out | apply zH | apply zI | apply zJ | refine zB ?_ (zA.out (by assumption))) | exact HB.out))) A11.out).mono ?_
   (case side1 => repeat (first | exact (Kd.yN HO438.out).2.2 | (with_reducible refine Kd.qR ?_ _) | (with_reducible refine Kd.qM ?_ _) | (with_reducible refine Kd.jH ?_)))
   (case side2 => exact (Kd.yN HO438.out).2.1)
   rintro e w60 ⟨v465, rfl, ho0, hb⟩
   refine ⟨_, rfl, ?_⟩
   have n0_ := zA.mk (Kd.yD (by (with_reducible repeat (first | apply Kd.zO | apply Kd.zM | apply Kd.zS)); exact HO438.out) (Kd.yQ ho0) hb)
   have n1_ := zA.mk (Kd.yD (by (with_reducible repeat (first | apply Kd.zO | apply Kd.zM | apply Kd.zS)); exact HO444.out) (Kd.yQ ho0) hb)
   have n2_ := zA.mk (Kd.yD (by (with_reducible repeat (first | apply Kd.zO | apply Kd.zM | apply Kd.zS)); exact HO450.out) (Kd.yQ ho0) hb)
   have n3_ := zA.mk (Kd.yD (by (with_reducible repeat (first | apply Kd.zO | apply Kd.zM | apply Kd.zS)); exact HO454.out) (Kd.yQ ho0) hb)
   have n4_ := zA.mk (Kd.yD (by (with_reducible repeat (first | apply Kd.zO | apply Kd.zM | apply Kd.zS)); exact HO460.out) (Kd.yQ ho0) hb)
   have n5_ := zA.mk (Kd.qB (Kd.yP (Kd.yP (Kd.yP (Kd.yP (Kd.yP ho0 (Kd.R_lt (by (with_reducible repeat (first | apply Kd.zO | apply Kd.zM | apply Kd.zS)); exact HO438.out))) (Kd.R_lt (by (with_reducible repeat (first | apply Kd.zO | apply Kd.zM | apply Kd.zS)); exact HO444.out))) (Kd.R_lt (by (with_reducible repeat (first | apply Kd.zO | apply Kd.zM | apply Kd.zS)); exact HO450.out))) (Kd.R_lt (by (with_reducible repeat (first | apply Kd.zO | apply Kd.zM | apply Kd.zS)); exact HO454.out))) (Kd.R_lt (by (with_reducible repeat (first | apply Kd.zO | apply Kd.zM | apply Kd.zS)); exact HO460.out))) (zW (by repeat (first | (with_reducible first | exact HB.out | apply zH | apply zI | apply zJ | refine zB ?_ GE439.out | refine zB ?_ GE440.out | refine zB ?_ GE446.out | refine zB ?_ GE456.out | refine zB ?_ GE462.out) | exact HB.out))))
   have n6_ := zA.mk (zK (g := gb439) (o := .cells #[.int .i64 t435, .slice Ao25 t436.length co25] 24 (0, 0)) (by (with_reducible repeat (first | apply zC | apply zG | apply zD)); exact BK439.out) hb)
   have n7_ := zA.mk (zK (g := gb440) (o := .cells #[.int .u64 (IntKind.u64.wrap (a0 + 7)), .int .i64 ((l1.length : Int) % 24)] 27 (0, 0)) (by (with_reducible repeat (first | apply zC | apply zG | apply zD)); exact BK440.out) hb)
   have n8_ := zA.mk (zK (g := gb446) (o := .cells #[.int .i64 t441, .slice Ao35 t442.length co35] 24 (0, 0)) (by (with_reducible repeat (first | apply zC | apply zG | apply zD)); exact BK446.out) hb)
   have n9_ := zA.mk (zK (g := gb456) (o := .cells #[.int .i64 t451, .slice Ao44 t452.length co44] 24 (0, 0)) (by (with_reducible repeat (first | apply zC | apply zG | apply zD)); exact BK456.out) hb)
   have n10_ := zA.mk (zK (g := gb462) (o := .cells #[.int .i64 t457, .slice Ao57 t458.length co57] 24 (0, 0)) (by (with_reducible repeat (first | apply zC | apply zG | apply zD)); exact BK462.out) hb)
   have n11_ := zA.mk (zT (by repeat (first | (with_reducible first | exact HB.out | apply zH | apply zI | apply zJ | refine zB ?_ GE439.out | refine zB ?_ GE440.out | refine zB ?_ GE446.out | refine zB ?_ GE456.out | refine zB ?_ GE462.out) | exact HB.out)) hb)
   clear HO438 HO444 HO450 HO454 HO460 BK439 BK440 BK446 BK456 BK462 HB; have HO438 := n0_; have HO444 := n1_; have HO450 := n2_; have HO454 := n3_; have HO460 := n4_; have HO466 := n5_; have BK439 := n6_; have BK440 := n7_; have BK446 := n8_; have BK456 := n9_; have BK462 := n10_; have HB := n11_; clear n0_ n1_ n2_ n3_ n4_ n5_ n6_ n7_ n8_ n9_ n10_ n11_
   (try clear hb)
   (try clear hb2)
   (try clear hk)
   (try clear hi)
   (try clear ho0)
   obtain ⟨Ao61, co61, eo61⟩ := Kd.xV HO466.out
   (first | subst eo61 | (injection eo61 with f1_ f2_ f3_; have f4_ := f1_.symm; have f5_ := f3_.symm; clear f1_ f2_ f3_; subst f4_; subst f5_))
   refine hK.out _ _ ⟨(zF BK439.out 0).trans rfl, (zF BK439.out 1).trans rfl, (zF BK440.out 0).trans rfl, (zF BK440.out 1).trans rfl⟩ (fun hHeld => ?_)
   clear hK K
   refine xA (a' := ?_) ?_ ?_
   rotate_left
   ·show Act.put _ (some 65) _ = _
    simp only [Act.put, List.setIfInBounds_toArray, List.set_cons_zero, List.set_cons_succ, zU, zV]
    rfl
   refine two_ (i := 8) (j := 12) (Ni := some 71) (Nj := some 16) #[true, true, true, true, true, true, true, true, true, false, false, false, false, false, false] #[true, true, true, true, true, true, true, true, false, false, false, false, true, false, false] rfl rfl rfl rfl (two_of HT_.out (by kernel_rfl)) (by decide) (by decide) (fun K hK => ?_) (fun K hK => ?_)
   ·skip
    refine qF Tryd.func13 (by kernel_rfl) rfl #[.agg #[.int .i64 t463, .slice Ao61 t464.length co61], .int .u64 (IntKind.u64.wrap (a0 + a2)), .int .i64 ((l1.length : Int) % 24)] (by rfl) rfl rfl (by (try simp only [List.map_toArray, List.map_cons, List.map_nil]); first | done | rfl | (simp only [List.length_drop, List.length_take]; rfl)) ?_
    with_reducible refine (tree_Delete.calls t463 _ _ t464 (IntKind.u64.wrap (a0 + a2)) ((l1.length : Int) % 24) t467 t468 t471 _ ?side1 ?side2 (by first | exact hT | ((repeat (first | exact hT | apply Tm.Emp.drewN | apply Tm.Emp.drew)); done) | exact Tm.Emp.below hT (by repeat (first | (with_reducible first | exact HB.out | apply zH | apply zI | apply zJ | refine zB ?_ (zA.out (by assumption))) | exact HB.out))) A12.out).mono ?_
    (case side1 => repeat (first | exact (Kd.yN HO466.out).2.2 | (with_reducible refine Kd.qR ?_ _) | (with_reducible refine Kd.qM ?_ _) | (with_reducible refine Kd.jH ?_)))
    (case side2 => exact (Kd.yN HO466.out).2.1)
    rintro e w62 ⟨v469, rfl, ho0, hb⟩
    refine ⟨_, rfl, ?_⟩
    have n0_ := zA.mk (Kd.yD (by (with_reducible repeat (first | apply Kd.zO | apply Kd.zM | apply Kd.zS)); exact HO438.out) (Kd.yQ ho0) hb)
    have n1_ := zA.mk (Kd.yD (by (with_reducible repeat (first | apply Kd.zO | apply Kd.zM | apply Kd.zS)); exact HO444.out) (Kd.yQ ho0) hb)
    have n2_ := zA.mk (Kd.yD (by (with_reducible repeat (first | apply Kd.zO | apply Kd.zM | apply Kd.zS)); exact HO450.out) (Kd.yQ ho0) hb)
    have n3_ := zA.mk (Kd.yD (by (with_reducible repeat (first | apply Kd.zO | apply Kd.zM | apply Kd.zS)); exact HO454.out) (Kd.yQ ho0) hb)
    have n4_ := zA.mk (Kd.yD (by (with_reducible repeat (first | apply Kd.zO | apply Kd.zM | apply Kd.zS)); exact HO460.out) (Kd.yQ ho0) hb)
    have n5_ := zA.mk (Kd.yD (by (with_reducible repeat (first | apply Kd.zO | apply Kd.zM | apply Kd.zS)); exact HO466.out) (Kd.yQ ho0) hb)
    have n6_ := zA.mk (Kd.qB (Kd.yP (Kd.yP (Kd.yP (Kd.yP (Kd.yP (Kd.yP ho0 (Kd.R_lt (by (with_reducible repeat (first | apply Kd.zO | apply Kd.zM | apply Kd.zS)); exact HO438.out))) (Kd.R_lt (by (with_reducible repeat (first | apply Kd.zO | apply Kd.zM | apply Kd.zS)); exact HO444.out))) (Kd.R_lt (by (with_reducible repeat (first | apply Kd.zO | apply Kd.zM | apply Kd.zS)); exact HO450.out))) (Kd.R_lt (by (with_reducible repeat (first | apply Kd.zO | apply Kd.zM | apply Kd.zS)); exact HO454.out))) (Kd.R_lt (by (with_reducible repeat (first | apply Kd.zO | apply Kd.zM | apply Kd.zS)); exact HO460.out))) (Kd.R_lt (by (with_reducible repeat (first | apply Kd.zO | apply Kd.zM | apply Kd.zS)); exact HO466.out))) (zW (by repeat (first | (with_reducible first | exact HB.out | apply zH | apply zI | apply zJ | refine zB ?_ GE439.out | refine zB ?_ GE440.out | refine zB ?_ GE446.out | refine zB ?_ GE456.out | refine zB ?_ GE462.out) | exact HB.out))))
    have n7_ := zA.mk (zK (g := gb439) (o := .cells #[.int .i64 t435, .slice Ao25 t436.length co25] 24 (0, 0)) (by (with_reducible repeat (first | apply zC | apply zG | apply zD)); exact BK439.out) hb)
    have n8_ := zA.mk (zK (g := gb440) (o := .cells #[.int .u64 (IntKind.u64.wrap (a0 + 7)), .int .i64 ((l1.length : Int) % 24)] 27 (0, 0)) (by (with_reducible repeat (first | apply zC | apply zG | apply zD)); exact BK440.out) hb)
    have n9_ := zA.mk (zK (g := gb446) (o := .cells #[.int .i64 t441, .slice Ao35 t442.length co35] 24 (0, 0)) (by (with_reducible repeat (first | apply zC | apply zG | apply zD)); exact BK446.out) hb)
    have n10_ := zA.mk (zK (g := gb456) (o := .cells #[.int .i64 t451, .slice Ao44 t452.length co44] 24 (0, 0)) (by (with_reducible repeat (first | apply zC | apply zG | apply zD)); exact BK456.out) hb)
    have n11_ := zA.mk (zK (g := gb462) (o := .cells #[.int .i64 t457, .slice Ao57 t458.length co57] 24 (0, 0)) (by (with_reducible repeat (first | apply zC | apply zG | apply zD)); exact BK462.out) hb)
    have n12_ := zA.mk (zT (by repeat (first | (with_reducible first | exact HB.out | apply zH | apply zI | apply zJ | refine zB ?_ GE439.out | refine zB ?_ GE440.out | refine zB ?_ GE446.out | refine zB ?_ GE456.out | refine zB ?_ GE462.out) | exact HB.out)) hb)
    clear HO438 HO444 HO450 HO454 HO460 HO466 BK439 BK440 BK446 BK456 BK462 HB; have HO438 := n0_; have HO444 := n1_; have HO450 := n2_; have HO454 := n3_; have HO460 := n4_; have HO466 := n5_; have HO470 := n6_; have BK439 := n7_; have BK440 := n8_; have BK446 := n9_; have BK456 := n10_; have BK462 := n11_; have HB := n12_; clear n0_ n1_ n2_ n3_ n4_ n5_ n6_ n7_ n8_ n9_ n10_ n11_ n12_
    (try clear hb)
    (try clear hb2)
    (try clear hk)
    (try clear hi)
    (try clear ho0)
    refine hK.out _ _ ⟨(zF BK439.out 0).trans rfl, (zF BK439.out 1).trans rfl, (zF BK440.out 0).trans rfl, (zF BK440.out 1).trans rfl⟩ (fun hHeld => ?_)
    clear hK K
    refine xA (a' := ?_) ?_ ?_
    rotate_left
    ·show Act.put _ (some 71) _ = _
     simp only [Act.put, List.setIfInBounds_toArray, List.set_cons_zero, List.set_cons_succ, zU, zV]
     rfl
    refine yB (i := 9) (N := some 62) (v := ?_) (a' := ?_) #[true, true, true, true, true, true, true, true, true, true, false, false, false, false, false] rfl rfl (yJ HT_.out (by kernel_rfl)) (fun _ _ _ h => h) (Or.inl ⟨by rfl, ?_⟩) ?_ ?_
    rotate_left
    ·intro w'
     go_simp
     with_reducible rfl
    rotate_left
    ·simp only [Act.put, List.setIfInBounds_toArray, List.set_cons_zero, List.set_cons_succ, zU, zV]
     rfl
    refine yB (i := 10) (N := some 72) (v := ?_) (a' := ?_) #[true, true, true, true, true, true, true, true, true, true, true, false, false, false, false] rfl rfl (yJ HT_.out (by kernel_rfl)) (fun _ _ _ h => h) (Or.inl ⟨by rfl, ?_⟩) ?_ ?_
    rotate_left
    ·intro w'
     go_simp
     with_reducible rfl
    rotate_left
    ·simp only [Act.put, List.setIfInBounds_toArray, List.set_cons_zero, List.set_cons_succ, zU, zV]
     rfl
    refine yB (i := 11) (N := some 73) (v := ?_) (a' := ?_) #[true, true, true, true, true, true, true, true, true, true, true, true, false, false, false] rfl rfl (yJ HT_.out (by kernel_rfl)) (fun _ _ _ h => h) (Or.inl ⟨by rfl, ?_⟩) ?_ ?_
    rotate_left
    ·intro w'
     go_simp
     with_reducible rfl
    rotate_left
    ·simp only [Act.put, List.setIfInBounds_toArray, List.set_cons_zero, List.set_cons_succ, zU, zV]
     rfl
    refine one_ (i := 12) (N := some 16) #[true, true, true, true, true, true, true, true, true, true, true, true, true, false, false] rfl rfl (qW HT_.out (by kernel_rfl)) (by decide) (fun K hK => ?_)
    refine wJ ?hg (N := 16) ?hd (cs := #[.int .i64 0, .slice none 0 0]) (t := 24) ?hr ?_; (case hd => rfl); (case hg => rfl); (case hr => first | (go_simp; done) | (go_simp; rfl))
    intro gb472 hg w63 hbox hb
    have n0_ := zA.mk (Kd.yG (by (with_reducible repeat (first | apply Kd.zO | apply Kd.zM | apply Kd.zS)); exact HO438.out) hb)
    have n1_ := zA.mk (Kd.yG (by (with_reducible repeat (first | apply Kd.zO | apply Kd.zM | apply Kd.zS)); exact HO444.out) hb)
    have n2_ := zA.mk (Kd.yG (by (with_reducible repeat (first | apply Kd.zO | apply Kd.zM | apply Kd.zS)); exact HO450.out) hb)
    have n3_ := zA.mk (Kd.yG (by (with_reducible repeat (first | apply Kd.zO | apply Kd.zM | apply Kd.zS)); exact HO454.out) hb)
    have n4_ := zA.mk (Kd.yG (by (with_reducible repeat (first | apply Kd.zO | apply Kd.zM | apply Kd.zS)); exact HO460.out) hb)
    have n5_ := zA.mk (Kd.yG (by (with_reducible repeat (first | apply Kd.zO | apply Kd.zM | apply Kd.zS)); exact HO466.out) hb)
    have n6_ := zA.mk (Kd.yG (by (with_reducible repeat (first | apply Kd.zO | apply Kd.zM | apply Kd.zS)); exact HO470.out) hb)
    have n7_ := zA.mk (zK (g := gb439) (o := .cells #[.int .i64 t435, .slice Ao25 t436.length co25] 24 (0, 0)) (by (with_reducible repeat (first | apply zC | apply zG | apply zD)); exact BK439.out) hb)
    have n8_ := zA.mk (zK (g := gb440) (o := .cells #[.int .u64 (IntKind.u64.wrap (a0 + 7)), .int .i64 ((l1.length : Int) % 24)] 27 (0, 0)) (by (with_reducible repeat (first | apply zC | apply zG | apply zD)); exact BK440.out) hb)
    have n9_ := zA.mk (zK (g := gb446) (o := .cells #[.int .i64 t441, .slice Ao35 t442.length co35] 24 (0, 0)) (by (with_reducible repeat (first | apply zC | apply zG | apply zD)); exact BK446.out) hb)
    have n10_ := zA.mk (zK (g := gb456) (o := .cells #[.int .i64 t451, .slice Ao44 t452.length co44] 24 (0, 0)) (by (with_reducible repeat (first | apply zC | apply zG | apply zD)); exact BK456.out) hb)
    have n11_ := zA.mk (zK (g := gb462) (o := .cells #[.int .i64 t457, .slice Ao57 t458.length co57] 24 (0, 0)) (by (with_reducible repeat (first | apply zC | apply zG | apply zD)); exact BK462.out) hb)
    have n12_ := zA.mk (zT (by repeat (first | (with_reducible first | exact HB.out | apply zH | apply zI | apply zJ | refine zB ?_ GE439.out | refine zB ?_ GE440.out | refine zB ?_ GE446.out | refine zB ?_ GE456.out | refine zB ?_ GE462.out) | exact HB.out)) hb)
    have n13_ := zA.mk (hbox)
    have n14_ := zA.mk ((by rw [hg]; exact (zW (by repeat (first | (with_reducible first | exact HB.out | apply zH | apply zI | apply zJ | refine zB ?_ GE439.out | refine zB ?_ GE440.out | refine zB ?_ GE446.out | refine zB ?_ GE456.out | refine zB ?_ GE462.out) | exact HB.out))) : w.heap.size ≤ gb472))
    have n15_ := zA.mk ((by rw [hg]; exact (zW (by repeat (first | (with_reducible first | exact HB.out | apply zH | apply zI | apply zJ | refine zB ?_ GE439.out | refine zB ?_ GE440.out | refine zB ?_ GE446.out | refine zB ?_ GE456.out | refine zB ?_ GE462.out) | exact HB.out))) : w.heap.size ≤ gb472))
    have n16_ := zA.mk ((by rw [hg]; exact Nat.ne_of_lt (yA (g := gb439) (o := .cells #[.int .i64 t435, .slice Ao25 t436.length co25] 24 (0, 0)) (by (with_reducible repeat (first | apply zC | apply zG | apply zD)); exact BK439.out)) : gb439 ≠ gb472))
    have n17_ := zA.mk ((by rw [hg]; exact Nat.ne_of_gt (yA (g := gb439) (o := .cells #[.int .i64 t435, .slice Ao25 t436.length co25] 24 (0, 0)) (by (with_reducible repeat (first | apply zC | apply zG | apply zD)); exact BK439.out)) : gb472 ≠ gb439))
    have n18_ := zA.mk ((by rw [hg]; exact Nat.ne_of_lt (yA (g := gb440) (o := .cells #[.int .u64 (IntKind.u64.wrap (a0 + 7)), .int .i64 ((l1.length : Int) % 24)] 27 (0, 0)) (by (with_reducible repeat (first | apply zC | apply zG | apply zD)); exact BK440.out)) : gb440 ≠ gb472))
    have n19_ := zA.mk ((by rw [hg]; exact Nat.ne_of_gt (yA (g := gb440) (o := .cells #[.int .u64 (IntKind.u64.wrap (a0 + 7)), .int .i64 ((l1.length : Int) % 24)] 27 (0, 0)) (by (with_reducible repeat (first | apply zC | apply zG | apply zD)); exact BK440.out)) : gb472 ≠ gb440))
    have n20_ := zA.mk ((by rw [hg]; exact Nat.ne_of_lt (yA (g := gb446) (o := .cells #[.int .i64 t441, .slice Ao35 t442.length co35] 24 (0, 0)) (by (with_reducible repeat (first | apply zC | apply zG | apply zD)); exact BK446.out)) : gb446 ≠ gb472))
    have n21_ := zA.mk ((by rw [hg]; exact Nat.ne_of_gt (yA (g := gb446) (o := .cells #[.int .i64 t441, .slice Ao35 t442.length co35] 24 (0, 0)) (by (with_reducible repeat (first | apply zC | apply zG | apply zD)); exact BK446.out)) : gb472 ≠ gb446))
    have n22_ := zA.mk ((by rw [hg]; exact Nat.ne_of_lt (yA (g := gb456) (o := .cells #[.int .i64 t451, .slice Ao44 t452.length co44] 24 (0, 0)) (by (with_reducible repeat (first | apply zC | apply zG | apply zD)); exact BK456.out)) : gb456 ≠ gb472))
    have n23_ := zA.mk ((by rw [hg]; exact Nat.ne_of_gt (yA (g := gb456) (o := .cells #[.int .i64 t451, .slice Ao44 t452.length co44] 24 (0, 0)) (by (with_reducible repeat (first | apply zC | apply zG | apply zD)); exact BK456.out)) : gb472 ≠ gb456))
    have n24_ := zA.mk ((by rw [hg]; exact Nat.ne_of_lt (yA (g := gb462) (o := .cells #[.int .i64 t457, .slice Ao57 t458.length co57] 24 (0, 0)) (by (with_reducible repeat (first | apply zC | apply zG | apply zD)); exact BK462.out)) : gb462 ≠ gb472))
    have n25_ := zA.mk ((by rw [hg]; exact Nat.ne_of_gt (yA (g := gb462) (o := .cells #[.int .i64 t457, .slice Ao57 t458.length co57] 24 (0, 0)) (by (with_reducible repeat (first | apply zC | apply zG | apply zD)); exact BK462.out)) : gb472 ≠ gb462))
    clear HO438 HO444 HO450 HO454 HO460 HO466 HO470 BK439 BK440 BK446 BK456 BK462 HB; have HO438 := n0_; have HO444 := n1_; have HO450 := n2_; have HO454 := n3_; have HO460 := n4_; have HO466 := n5_; have HO470 := n6_; have BK439 := n7_; have BK440 := n8_; have BK446 := n9_; have BK456 := n10_; have BK462 := n11_; have HB := n12_; have BK472 := n13_; have GW472 := n14_; have GE472 := n15_; have NB439_472 := n16_; have NB472_439 := n17_; have NB440_472 := n18_; have NB472_440 := n19_; have NB446_472 := n20_; have NB472_446 := n21_; have NB456_472 := n22_; have NB472_456 := n23_; have NB462_472 := n24_; have NB472_462 := n25_; clear n0_ n1_ n2_ n3_ n4_ n5_ n6_ n7_ n8_ n9_ n10_ n11_ n12_ n13_ n14_ n15_ n16_ n17_ n18_ n19_ n20_ n21_ n22_ n23_ n24_ n25_; clear hb hbox hg
    refine hK.out _ _ ⟨(zF BK439.out 0).trans rfl, (zF BK439.out 1).trans rfl, (zF BK440.out 0).trans rfl, (zF BK440.out 1).trans rfl⟩ (fun hHeld => ?_)
    clear hK K
    refine xA (a' := ?_) ?_ ?_
    rotate_left
    ·show Act.put _ (some 16) _ = _
     simp only [Act.put, List.setIfInBounds_toArray, List.set_cons_zero, List.set_cons_succ, zU, zV]
     rfl
    exact xA (by simp only [kJ, Act.put, List.setIfInBounds_toArray, List.set_cons_zero, List.set_cons_succ]) (hCont (.slice Ao61 t464.length co61, v469, gb472) _ ⟨hHeld, (by (with_reducible repeat (first | apply Kd.zO | apply Kd.zM | apply Kd.zS)); exact Kd.yF HO438.out (fun _ hk => ⟨hk.1.1.1, ⟨hk.1.1.2.1, ⟨hk.1.1.2.2.1, ⟨hk.1.1.2.2.2, ⟨hk.1.2, hk.2⟩⟩⟩⟩⟩)), (by (with_reducible repeat (first | apply Kd.zO | apply Kd.zM | apply Kd.zS)); exact Kd.yF HO444.out (fun _ hk => ⟨hk.1.1.1, ⟨hk.1.1.2.1, ⟨hk.1.1.2.2.1, ⟨hk.1.1.2.2.2, ⟨hk.1.2, hk.2⟩⟩⟩⟩⟩)), (by (with_reducible repeat (first | apply Kd.zO | apply Kd.zM | apply Kd.zS)); exact Kd.yF HO450.out (fun _ hk => ⟨hk.1.1.1, ⟨hk.1.1.2.1, ⟨hk.1.1.2.2.1, ⟨hk.1.1.2.2.2, ⟨hk.1.2, hk.2⟩⟩⟩⟩⟩)), (by (with_reducible repeat (first | apply Kd.zO | apply Kd.zM | apply Kd.zS)); exact Kd.yF HO454.out (fun _ hk => ⟨hk.1.1.1, ⟨hk.1.1.2.1, ⟨hk.1.1.2.2.1, ⟨hk.1.1.2.2.2, ⟨hk.1.2, hk.2⟩⟩⟩⟩⟩)), (by (with_reducible repeat (first | apply Kd.zO | apply Kd.zM | apply Kd.zS)); exact Kd.yF HO460.out (fun _ hk => ⟨hk.1.1.1, ⟨hk.1.1.2.1, ⟨hk.1.1.2.2.1, ⟨hk.1.1.2.2.2, ⟨hk.1.2, hk.2⟩⟩⟩⟩⟩)), (by (with_reducible repeat (first | apply Kd.zO | apply Kd.zM | apply Kd.zS)); exact Kd.yF HO466.out (fun _ hk => ⟨hk.1.1.1.1.1.2, ⟨hk.1.1.1.1.2, ⟨hk.1.1.1.2, ⟨hk.1.1.2, ⟨hk.1.2, hk.2⟩⟩⟩⟩⟩)), (by (with_reducible repeat (first | apply Kd.zO | apply Kd.zM | apply Kd.zS)); exact Kd.yF HO470.out (fun _ hk => ⟨hk.1.1.1.1.1.2, ⟨hk.1.1.1.1.2, ⟨hk.1.1.1.2, ⟨hk.1.1.2, ⟨hk.1.2, hk.2⟩⟩⟩⟩⟩)), (by (with_reducible repeat (first | apply zC | apply zG | apply zD)); exact BK439.out), (by (with_reducible repeat (first | apply zC | apply zG | apply zD)); exact BK440.out), (by (with_reducible repeat (first | apply zC | apply zG | apply zD)); exact BK446.out), (by (with_reducible repeat (first | apply zC | apply zG | apply zD)); exact BK456.out), (by (with_reducible repeat (first | apply zC | apply zG | apply zD)); exact BK462.out), (by (with_reducible repeat (first | apply zC | apply zG | apply zD)); exact BK472.out), GW472.out, GE472.out, NB439_472.out, NB472_439.out, NB440_472.out, NB472_440.out, NB446_472.out, NB472_446.out, NB456_472.out, NB472_456.out, NB462_472.out, NB472_462.out, (by repeat (first | (with_reducible first | exact HB.out | apply zH | apply zI | apply zJ | refine zB ?_ GE439.out | refine zB ?_ GE440.out | refine zB ?_ GE446.out | refine zB ?_ GE456.out | refine zB ?_ GE462.out | refine zB ?_ GE472.out) | exact HB.out))⟩)
   ·skip
    refine wJ ?hg (N := 16) ?hd (cs := #[.int .i64 0, .slice none 0 0]) (t := 24) ?hr ?_; (case hd => rfl); (case hg => rfl); (case hr => first | (go_simp; done) | (go_simp; rfl))
    intro gb472 hg w61 hbox hb
    have n0_ := zA.mk (Kd.yG (by (with_reducible repeat (first | apply Kd.zO | apply Kd.zM | apply Kd.zS)); exact HO438.out) hb)
    have n1_ := zA.mk (Kd.yG (by (with_reducible repeat (first | apply Kd.zO | apply Kd.zM | apply Kd.zS)); exact HO444.out) hb)
    have n2_ := zA.mk (Kd.yG (by (with_reducible repeat (first | apply Kd.zO | apply Kd.zM | apply Kd.zS)); exact HO450.out) hb)
    have n3_ := zA.mk (Kd.yG (by (with_reducible repeat (first | apply Kd.zO | apply Kd.zM | apply Kd.zS)); exact HO454.out) hb)
    have n4_ := zA.mk (Kd.yG (by (with_reducible repeat (first | apply Kd.zO | apply Kd.zM | apply Kd.zS)); exact HO460.out) hb)
    have n5_ := zA.mk (Kd.yG (by (with_reducible repeat (first | apply Kd.zO | apply Kd.zM | apply Kd.zS)); exact HO466.out) hb)
    have n6_ := zA.mk (zK (g := gb439) (o := .cells #[.int .i64 t435, .slice Ao25 t436.length co25] 24 (0, 0)) (by (with_reducible repeat (first | apply zC | apply zG | apply zD)); exact BK439.out) hb)
    have n7_ := zA.mk (zK (g := gb440) (o := .cells #[.int .u64 (IntKind.u64.wrap (a0 + 7)), .int .i64 ((l1.length : Int) % 24)] 27 (0, 0)) (by (with_reducible repeat (first | apply zC | apply zG | apply zD)); exact BK440.out) hb)
    have n8_ := zA.mk (zK (g := gb446) (o := .cells #[.int .i64 t441, .slice Ao35 t442.length co35] 24 (0, 0)) (by (with_reducible repeat (first | apply zC | apply zG | apply zD)); exact BK446.out) hb)
    have n9_ := zA.mk (zK (g := gb456) (o := .cells #[.int .i64 t451, .slice Ao44 t452.length co44] 24 (0, 0)) (by (with_reducible repeat (first | apply zC | apply zG | apply zD)); exact BK456.out) hb)
    have n10_ := zA.mk (zK (g := gb462) (o := .cells #[.int .i64 t457, .slice Ao57 t458.length co57] 24 (0, 0)) (by (with_reducible repeat (first | apply zC | apply zG | apply zD)); exact BK462.out) hb)
    have n11_ := zA.mk (zT (by repeat (first | (with_reducible first | exact HB.out | apply zH | apply zI | apply zJ | refine zB ?_ GE439.out | refine zB ?_ GE440.out | refine zB ?_ GE446.out | refine zB ?_ GE456.out | refine zB ?_ GE462.out) | exact HB.out)) hb)
    have n12_ := zA.mk (hbox)
    have n13_ := zA.mk ((by rw [hg]; exact (zW (by repeat (first | (with_reducible first | exact HB.out | apply zH | apply zI | apply zJ | refine zB ?_ GE439.out | refine zB ?_ GE440.out | refine zB ?_ GE446.out | refine zB ?_ GE456.out | refine zB ?_ GE462.out) | exact HB.out))) : w.heap.size ≤ gb472))
    have n14_ := zA.mk ((by rw [hg]; exact (zW (by repeat (first | (with_reducible first | exact HB.out | apply zH | apply zI | apply zJ | refine zB ?_ GE439.out | refine zB ?_ GE440.out | refine zB ?_ GE446.out | refine zB ?_ GE456.out | refine zB ?_ GE462.out) | exact HB.out))) : w.heap.size ≤ gb472))
    have n15_ := zA.mk ((by rw [hg]; exact Nat.ne_of_lt (yA (g := gb439) (o := .cells #[.int .i64 t435, .slice Ao25 t436.length co25] 24 (0, 0)) (by (with_reducible repeat (first | apply zC | apply zG | apply zD)); exact BK439.out)) : gb439 ≠ gb472))
    have n16_ := zA.mk ((by rw [hg]; exact Nat.ne_of_gt (yA (g := gb439) (o := .cells #[.int .i64 t435, .slice Ao25 t436.length co25] 24 (0, 0)) (by (with_reducible repeat (first | apply zC | apply zG | apply zD)); exact BK439.out)) : gb472 ≠ gb439))
    have n17_ := zA.mk ((by rw [hg]; exact Nat.ne_of_lt (yA (g := gb440) (o := .cells #[.int .u64 (IntKind.u64.wrap (a0 + 7)), .int .i64 ((l1.length : Int) % 24)] 27 (0, 0)) (by (with_reducible repeat (first | apply zC | apply zG | apply zD)); exact BK440.out)) : gb440 ≠ gb472))
    have n18_ := zA.mk ((by rw [hg]; exact Nat.ne_of_gt (yA (g := gb440) (o := .cells #[.int .u64 (IntKind.u64.wrap (a0 + 7)), .int .i64 ((l1.length : Int) % 24)] 27 (0, 0)) (by (with_reducible repeat (first | apply zC | apply zG | apply zD)); exact BK440.out)) : gb472 ≠ gb440))
    have n19_ := zA.mk ((by rw [hg]; exact Nat.ne_of_lt (yA (g := gb446) (o := .cells #[.int .i64 t441, .slice Ao35 t442.length co35] 24 (0, 0)) (by (with_reducible repeat (first | apply zC | apply zG | apply zD)); exact BK446.out)) : gb446 ≠ gb472))
    have n20_ := zA.mk ((by rw [hg]; exact Nat.ne_of_gt (yA (g := gb446) (o := .cells #[.int .i64 t441, .slice Ao35 t442.length co35] 24 (0, 0)) (by (with_reducible repeat (first | apply zC | apply zG | apply zD)); exact BK446.out)) : gb472 ≠ gb446))
    have n21_ := zA.mk ((by rw [hg]; exact Nat.ne_of_lt (yA (g := gb456) (o := .cells #[.int .i64 t451, .slice Ao44 t452.length co44] 24 (0, 0)) (by (with_reducible repeat (first | apply zC | apply zG | apply zD)); exact BK456.out)) : gb456 ≠ gb472))
    have n22_ := zA.mk ((by rw [hg]; exact Nat.ne_of_gt (yA (g := gb456) (o := .cells #[.int .i64 t451, .slice Ao44 t452.length co44] 24 (0, 0)) (by (with_reducible repeat (first | apply zC | apply zG | apply zD)); exact BK456.out)) : gb472 ≠ gb456))
    have n23_ := zA.mk ((by rw [hg]; exact Nat.ne_of_lt (yA (g := gb462) (o := .cells #[.int .i64 t457, .slice Ao57 t458.length co57] 24 (0, 0)) (by (with_reducible repeat (first | apply zC | apply zG | apply zD)); exact BK462.out)) : gb462 ≠ gb472))
    have n24_ := zA.mk ((by rw [hg]; exact Nat.ne_of_gt (yA (g := gb462) (o := .cells #[.int .i64 t457, .slice Ao57 t458.length co57] 24 (0, 0)) (by (with_reducible repeat (first | apply zC | apply zG | apply zD)); exact BK462.out)) : gb472 ≠ gb462))
    clear HO438 HO444 HO450 HO454 HO460 HO466 BK439 BK440 BK446 BK456 BK462 HB; have HO438 := n0_; have HO444 := n1_; have HO450 := n2_; have HO454 := n3_; have HO460 := n4_; have HO466 := n5_; have BK439 := n6_; have BK440 := n7_; have BK446 := n8_; have BK456 := n9_; have BK462 := n10_; have HB := n11_; have BK472 := n12_; have GW472 := n13_; have GE472 := n14_; have NB439_472 := n15_; have NB472_439 := n16_; have NB440_472 := n17_; have NB472_440 := n18_; have NB446_472 := n19_; have NB472_446 := n20_; have NB456_472 := n21_; have NB472_456 := n22_; have NB462_472 := n23_; have NB472_462 := n24_; clear n0_ n1_ n2_ n3_ n4_ n5_ n6_ n7_ n8_ n9_ n10_ n11_ n12_ n13_ n14_ n15_ n16_ n17_ n18_ n19_ n20_ n21_ n22_ n23_ n24_; clear hb hbox hg
    obtain ⟨Ao62, co62, eo62⟩ := Kd.xV HO466.out
    (first | subst eo62 | (injection eo62 with f1_ f2_ f3_; have f4_ := f1_.symm; have f5_ := f3_.symm; clear f1_ f2_ f3_; subst f4_; subst f5_))
    refine hK.out _ _ ⟨(zF BK439.out 0).trans rfl, (zF BK439.out 1).trans rfl, (zF BK440.out 0).trans rfl, (zF BK440.out 1).trans rfl⟩ (fun hHeld => ?_)
    clear hK K
    refine xA (a' := ?_) ?_ ?_
    rotate_left
    ·show Act.put _ (some 16) _ = _
     simp only [Act.put, List.setIfInBounds_toArray, List.set_cons_zero, List.set_cons_succ, zU, zV]
     rfl
    refine one_ (i := 8) (N := some 71) #[true, true, true, true, true, true, true, true, true, false, false, false, true, false, false] rfl rfl (qW HT_.out (by kernel_rfl)) (by decide) (fun K hK => ?_)
    refine qF Tryd.func13 (by kernel_rfl) rfl #[.agg #[.int .i64 t463, .slice Ao62 t464.length co62], .int .u64 (IntKind.u64.wrap (a0 + a2)), .int .i64 ((l1.length : Int) % 24)] (by rfl) rfl rfl (by (try simp only [List.map_toArray, List.map_cons, List.map_nil]); first | done | rfl | (simp only [List.length_drop, List.length_take]; rfl)) ?_
    with_reducible refine (tree_Delete.calls t463 _ _ t464 (IntKind.u64.wrap (a0 + a2)) ((l1.length : Int) % 24) t467 t468 t471 _ ?side1 ?side2 (by first | exact hT | ((repeat (first | exact hT | apply Tm.Emp.drewN | apply Tm.Emp.drew)); done) | exact Tm.Emp.below hT (by repeat (first | (with_reducible first | exact HB.out | apply zH | apply zI | apply zJ | refine zB ?_ (zA.out (by assumption))) | exact HB.out))) A12.out).mono ?_
    (case side1 => repeat (first | exact (Kd.yN HO466.out).2.2 | (with_reducible refine Kd.qR ?_ _) | (with_reducible refine Kd.qM ?_ _) | (with_reducible refine Kd.jH ?_)))
    (case side2 => exact (Kd.yN HO466.out).2.1)
    rintro e w63 ⟨v469, rfl, ho0, hb⟩
    refine ⟨_, rfl, ?_⟩
    have n0_ := zA.mk (Kd.yD (by (with_reducible repeat (first | apply Kd.zO | apply Kd.zM | apply Kd.zS)); exact HO438.out) (Kd.yQ ho0) hb)
    have n1_ := zA.mk (Kd.yD (by (with_reducible repeat (first | apply Kd.zO | apply Kd.zM | apply Kd.zS)); exact HO444.out) (Kd.yQ ho0) hb)
    have n2_ := zA.mk (Kd.yD (by (with_reducible repeat (first | apply Kd.zO | apply Kd.zM | apply Kd.zS)); exact HO450.out) (Kd.yQ ho0) hb)
    have n3_ := zA.mk (Kd.yD (by (with_reducible repeat (first | apply Kd.zO | apply Kd.zM | apply Kd.zS)); exact HO454.out) (Kd.yQ ho0) hb)
    have n4_ := zA.mk (Kd.yD (by (with_reducible repeat (first | apply Kd.zO | apply Kd.zM | apply Kd.zS)); exact HO460.out) (Kd.yQ ho0) hb)
    have n5_ := zA.mk (Kd.yD (by (with_reducible repeat (first | apply Kd.zO | apply Kd.zM | apply Kd.zS)); exact HO466.out) (Kd.yQ ho0) hb)
    have n6_ := zA.mk (Kd.qB (Kd.yP (Kd.yP (Kd.yP (Kd.yP (Kd.yP (Kd.yP ho0 (Kd.R_lt (by (with_reducible repeat (first | apply Kd.zO | apply Kd.zM | apply Kd.zS)); exact HO438.out))) (Kd.R_lt (by (with_reducible repeat (first | apply Kd.zO | apply Kd.zM | apply Kd.zS)); exact HO444.out))) (Kd.R_lt (by (with_reducible repeat (first | apply Kd.zO | apply Kd.zM | apply Kd.zS)); exact HO450.out))) (Kd.R_lt (by (with_reducible repeat (first | apply Kd.zO | apply Kd.zM | apply Kd.zS)); exact HO454.out))) (Kd.R_lt (by (with_reducible repeat (first | apply Kd.zO | apply Kd.zM | apply Kd.zS)); exact HO460.out))) (Kd.R_lt (by (with_reducible repeat (first | apply Kd.zO | apply Kd.zM | apply Kd.zS)); exact HO466.out))) (zW (by repeat (first | (with_reducible first | exact HB.out | apply zH | apply zI | apply zJ | refine zB ?_ GE439.out | refine zB ?_ GE440.out | refine zB ?_ GE446.out | refine zB ?_ GE456.out | refine zB ?_ GE462.out | refine zB ?_ GE472.out) | exact HB.out))))
    have n7_ := zA.mk (zK (g := gb439) (o := .cells #[.int .i64 t435, .slice Ao25 t436.length co25] 24 (0, 0)) (by (with_reducible repeat (first | apply zC | apply zG | apply zD)); exact BK439.out) hb)
    have n8_ := zA.mk (zK (g := gb440) (o := .cells #[.int .u64 (IntKind.u64.wrap (a0 + 7)), .int .i64 ((l1.length : Int) % 24)] 27 (0, 0)) (by (with_reducible repeat (first | apply zC | apply zG | apply zD)); exact BK440.out) hb)
    have n9_ := zA.mk (zK (g := gb446) (o := .cells #[.int .i64 t441, .slice Ao35 t442.length co35] 24 (0, 0)) (by (with_reducible repeat (first | apply zC | apply zG | apply zD)); exact BK446.out) hb)
    have n10_ := zA.mk (zK (g := gb456) (o := .cells #[.int .i64 t451, .slice Ao44 t452.length co44] 24 (0, 0)) (by (with_reducible repeat (first | apply zC | apply zG | apply zD)); exact BK456.out) hb)
    have n11_ := zA.mk (zK (g := gb462) (o := .cells #[.int .i64 t457, .slice Ao57 t458.length co57] 24 (0, 0)) (by (with_reducible repeat (first | apply zC | apply zG | apply zD)); exact BK462.out) hb)
    have n12_ := zA.mk (zK (g := gb472) (o := .cells #[.int .i64 0, .slice none 0 0] 24 (0, 0)) (by (with_reducible repeat (first | apply zC | apply zG | apply zD)); exact BK472.out) hb)
    have n13_ := zA.mk (zT (by repeat (first | (with_reducible first | exact HB.out | apply zH | apply zI | apply zJ | refine zB ?_ GE439.out | refine zB ?_ GE440.out | refine zB ?_ GE446.out | refine zB ?_ GE456.out | refine zB ?_ GE462.out | refine zB ?_ GE472.out) | exact HB.out)) hb)
    clear HO438 HO444 HO450 HO454 HO460 HO466 BK439 BK440 BK446 BK456 BK462 BK472 HB; have HO438 := n0_; have HO444 := n1_; have HO450 := n2_; have HO454 := n3_; have HO460 := n4_; have HO466 := n5_; have HO470 := n6_; have BK439 := n7_; have BK440 := n8_; have BK446 := n9_; have BK456 := n10_; have BK462 := n11_; have BK472 := n12_; have HB := n13_; clear n0_ n1_ n2_ n3_ n4_ n5_ n6_ n7_ n8_ n9_ n10_ n11_ n12_ n13_
    (try clear hb)
    (try clear hb2)
    (try clear hk)
    (try clear hi)
    (try clear ho0)
    refine hK.out _ _ ⟨(zF BK439.out 0).trans rfl, (zF BK439.out 1).trans rfl, (zF BK440.out 0).trans rfl, (zF BK440.out 1).trans rfl⟩ (fun hHeld => ?_)
    clear hK K
    refine xA (a' := ?_) ?_ ?_
    rotate_left
    ·show Act.put _ (some 71) _ = _
     simp only [Act.put, List.setIfInBounds_toArray, List.set_cons_zero, List.set_cons_succ, zU, zV]
     rfl
    refine yB (i := 9) (N := some 62) (v := ?_) (a' := ?_) #[true, true, true, true, true, true, true, true, true, true, false, false, true, false, false] rfl rfl (yJ HT_.out (by kernel_rfl)) (fun _ _ _ h => h) (Or.inl ⟨by rfl, ?_⟩) ?_ ?_
    rotate_left
    ·intro w'
     go_simp
     with_reducible rfl
    rotate_left
    ·simp only [Act.put, List.setIfInBounds_toArray, List.set_cons_zero, List.set_cons_succ, zU, zV]
     rfl
    refine yB (i := 10) (N := some 72) (v := ?_) (a' := ?_) #[true, true, true, true, true, true, true, true, true, true, true, false, true, false, false] rfl rfl (yJ HT_.out (by kernel_rfl)) (fun _ _ _ h => h) (Or.inl ⟨by rfl, ?_⟩) ?_ ?_
    rotate_left
    ·intro w'
     go_simp
     with_reducible rfl
    rotate_left
    ·simp only [Act.put, List.setIfInBounds_toArray, List.set_cons_zero, List.set_cons_succ, zU, zV]
     rfl
    refine yB (i := 11) (N := some 73) (v := ?_) (a' := ?_) #[true, true, true, true, true, true, true, true, true, true, true, true, true, false, false] rfl rfl (yJ HT_.out (by kernel_rfl)) (fun _ _ _ h => h) (Or.inl ⟨by rfl, ?_⟩) ?_ ?_
    rotate_left
    ·intro w'
     go_simp
     with_reducible rfl
    rotate_left
    ·simp only [Act.put, List.setIfInBounds_toArray, List.set_cons_zero, List.set_cons_succ, zU, zV]
     rfl
    exact xA (by simp only [kJ, Act.put, List.setIfInBounds_toArray, List.set_cons_zero, List.set_cons_succ]) (hCont (.slice Ao62 t464.length co62, v469, gb472) _ ⟨hHeld, (by (with_reducible repeat (first | apply Kd.zO | apply Kd.zM | apply Kd.zS)); exact Kd.yF HO438.out (fun _ hk => ⟨hk.1.1.1, ⟨hk.1.1.2.1, ⟨hk.1.1.2.2.1, ⟨hk.1.1.2.2.2, ⟨hk.1.2, hk.2⟩⟩⟩⟩⟩)), (by (with_reducible repeat (first | apply Kd.zO | apply Kd.zM | apply Kd.zS)); exact Kd.yF HO444.out (fun _ hk => ⟨hk.1.1.1, ⟨hk.1.1.2.1, ⟨hk.1.1.2.2.1, ⟨hk.1.1.2.2.2, ⟨hk.1.2, hk.2⟩⟩⟩⟩⟩)), (by (with_reducible repeat (first | apply Kd.zO | apply Kd.zM | apply Kd.zS)); exact Kd.yF HO450.out (fun _ hk => ⟨hk.1.1.1, ⟨hk.1.1.2.1, ⟨hk.1.1.2.2.1, ⟨hk.1.1.2.2.2, ⟨hk.1.2, hk.2⟩⟩⟩⟩⟩)), (by (with_reducible repeat (first | apply Kd.zO | apply Kd.zM | apply Kd.zS)); exact Kd.yF HO454.out (fun _ hk => ⟨hk.1.1.1, ⟨hk.1.1.2.1, ⟨hk.1.1.2.2.1, ⟨hk.1.1.2.2.2, ⟨hk.1.2, hk.2⟩⟩⟩⟩⟩)), (by (with_reducible repeat (first | apply Kd.zO | apply Kd.zM | apply Kd.zS)); exact Kd.yF HO460.out (fun _ hk => ⟨hk.1.1.1, ⟨hk.1.1.2.1, ⟨hk.1.1.2.2.1, ⟨hk.1.1.2.2.2, ⟨hk.1.2, hk.2⟩⟩⟩⟩⟩)), (by (with_reducible repeat (first | apply Kd.zO | apply Kd.zM | apply Kd.zS)); exact Kd.yF HO466.out (fun _ hk => ⟨hk.1.1.1.1.1.2, ⟨hk.1.1.1.1.2, ⟨hk.1.1.1.2, ⟨hk.1.1.2, ⟨hk.1.2, hk.2⟩⟩⟩⟩⟩)), (by (with_reducible repeat (first | apply Kd.zO | apply Kd.zM | apply Kd.zS)); exact Kd.yF HO470.out (fun _ hk => ⟨hk.1.1.1.1.1.2, ⟨hk.1.1.1.1.2, ⟨hk.1.1.1.2, ⟨hk.1.1.2, ⟨hk.1.2, hk.2⟩⟩⟩⟩⟩)), (by (with_reducible repeat (first | apply zC | apply zG | apply zD)); exact BK439.out), (by (with_reducible repeat (first | apply zC | apply zG | apply zD)); exact BK440.out), (by (with_reducible repeat (first | apply zC | apply zG | apply zD)); exact BK446.out), (by (with_reducible repeat (first | apply zC | apply zG | apply zD)); exact BK456.out), (by (with_reducible repeat (first | apply zC | apply zG | apply zD)); exact BK462.out), (by (with_reducible repeat (first | apply zC | apply zG | apply zD)); exact BK472.out), GW472.out, GE472.out, NB439_472.out, NB472_439.out, NB440_472.out, NB472_440.out, NB446_472.out, NB472_446.out, NB456_472.out, NB472_456.out, NB462_472.out, NB472_462.out, (by repeat (first | (with_reducible first | exact HB.out | apply zH | apply zI | apply zJ | refine zB ?_ GE439.out | refine zB ?_ GE440.out | refine zB ?_ GE446.out | refine zB ?_ GE456.out | refine zB ?_ GE462.out | refine zB ?_ GE472.out) | exact HB.out))⟩)
  ·skip
   refine wJ ?hg (N := 16) ?hd (cs := #[.int .i64 0, .slice none 0 0]) (t := 24) ?hr ?_; (case hd => rfl); (case hg => rfl); (case hr => first | (go_simp; done) | (go_simp; rfl))
   intro gb472 hg w60 hbox hb
   have n0_ := zA.mk (Kd.yG (by (with_reducible repeat (first | apply Kd.zO | apply Kd.zM | apply Kd.zS)); exact HO438.out) hb)
   have n1_ := zA.mk (Kd.yG (by (with_reducible repeat (first | apply Kd.zO | apply Kd.zM | apply Kd.zS)); exact HO444.out) hb)
   have n2_ := zA.mk (Kd.yG (by (with_reducible repeat (first | apply Kd.zO | apply Kd.zM | apply Kd.zS)); exact HO450.out) hb)
   have n3_ := zA.mk (Kd.yG (by (with_reducible repeat (first | apply Kd.zO | apply Kd.zM | apply Kd.zS)); exact HO454.out) hb)
   have n4_ := zA.mk (Kd.yG (by (with_reducible repeat (first | apply Kd.zO | apply Kd.zM | apply Kd.zS)); exact HO460.out) hb)
   have n5_ := zA.mk (zK (g := gb439) (o := .cells #[.int .i64 t435, .slice Ao25 t436.length co25] 24 (0, 0)) (by (with_reducible repeat (first | apply zC | apply zG | apply zD)); exact BK439.out) hb)
   have n6_ := zA.mk (zK (g := gb440) (o := .cells #[.int .u64 (IntKind.u64.wrap (a0 + 7)), .int .i64 ((l1.length : Int) % 24)] 27 (0, 0)) (by (with_reducible repeat (first | apply zC | apply zG | apply zD)); exact BK440.out) hb)
   have n7_ := zA.mk (zK (g := gb446) (o := .cells #[.int .i64 t441, .slice Ao35 t442.length co35] 24 (0, 0)) (by (with_reducible repeat (first | apply zC | apply zG | apply zD)); exact BK446.out) hb)
   have n8_ := zA.mk (zK (g := gb456) (o := .cells #[.int .i64 t451, .slice Ao44 t452.length co44] 24 (0, 0)) (by (with_reducible repeat (first | apply zC | apply zG | apply zD)); exact BK456.out) hb)
   have n9_ := zA.mk (zK (g := gb462) (o := .cells #[.int .i64 t457, .slice Ao57 t458.length co57] 24 (0, 0)) (by (with_reducible repeat (first | apply zC | apply zG | apply zD)); exact BK462.out) hb)
   have n10_ := zA.mk (zT (by repeat (first | (with_reducible first | exact HB.out | apply zH | apply zI | apply zJ | refine zB ?_ GE439.out | refine zB ?_ GE440.out | refine zB ?_ GE446.out | refine zB ?_ GE456.out | refine zB ?_ GE462.out) | exact HB.out)) hb)
   have n11_ := zA.mk (hbox)
   have n12_ := zA.mk ((by rw [hg]; exact (zW (by repeat (first | (with_reducible first | exact HB.out | apply zH | apply zI | apply zJ | refine zB ?_ GE439.out | refine zB ?_ GE440.out | refine zB ?_ GE446.out | refine zB ?_ GE456.out | refine zB ?_ GE462.out) | exact HB.out))) : w.heap.size ≤ gb472))
   have n13_ := zA.mk ((by rw [hg]; exact (zW (by repeat (first | (with_reducible first | exact HB.out | apply zH | apply zI | apply zJ | refine zB ?_ GE439.out | refine zB ?_ GE440.out | refine zB ?_ GE446.out | refine zB ?_ GE456.out | refine zB ?_ GE462.out) | exact HB.out))) : w.heap.size ≤ gb472))
   have n14_ := zA.mk ((by rw [hg]; exact Nat.ne_of_lt (yA (g := gb439) (o := .cells #[.int .i64 t435, .slice Ao25 t436.length co25] 24 (0, 0)) (by (with_reducible repeat (first | apply zC | apply zG | apply zD)); exact BK439.out)) : gb439 ≠ gb472))
   have n15_ := zA.mk ((by rw [hg]; exact Nat.ne_of_gt (yA (g := gb439) (o := .cells #[.int .i64 t435, .slice Ao25 t436.length co25] 24 (0, 0)) (by (with_reducible repeat (first | apply zC | apply zG | apply zD)); exact BK439.out)) : gb472 ≠ gb439))
   have n16_ := zA.mk ((by rw [hg]; exact Nat.ne_of_lt (yA (g := gb440) (o := .cells #[.int .u64 (IntKind.u64.wrap (a0 + 7)), .int .i64 ((l1.length : Int) % 24)] 27 (0, 0)) (by (with_reducible repeat (first | apply zC | apply zG | apply zD)); exact BK440.out)) : gb440 ≠ gb472))
   have n17_ := zA.mk ((by rw [hg]; exact Nat.ne_of_gt (yA (g := gb440) (o := .cells #[.int .u64 (IntKind.u64.wrap (a0 + 7)), .int .i64 ((l1.length : Int) % 24)] 27 (0, 0)) (by (with_reducible repeat (first | apply zC | apply zG | apply zD)); exact BK440.out)) : gb472 ≠ gb440))
   have n18_ := zA.mk ((by rw [hg]; exact Nat.ne_of_lt (yA (g := gb446) (o := .cells #[.int .i64 t441, .slice Ao35 t442.length co35] 24 (0, 0)) (by (with_reducible repeat (first | apply zC | apply zG | apply zD)); exact BK446.out)) : gb446 ≠ gb472))
   have n19_ := zA.mk ((by rw [hg]; exact Nat.ne_of_gt (yA (g := gb446) (o := .cells #[.int .i64 t441, .slice Ao35 t442.length co35] 24 (0, 0)) (by (with_reducible repeat (first | apply zC | apply zG | apply zD)); exact BK446.out)) : gb472 ≠ gb446))
   have n20_ := zA.mk ((by rw [hg]; exact Nat.ne_of_lt (yA (g := gb456) (o := .cells #[.int .i64 t451, .slice Ao44 t452.length co44] 24 (0, 0)) (by (with_reducible repeat (first | apply zC | apply zG | apply zD)); exact BK456.out)) : gb456 ≠ gb472))
   have n21_ := zA.mk ((by rw [hg]; exact Nat.ne_of_gt (yA (g := gb456) (o := .cells #[.int .i64 t451, .slice Ao44 t452.length co44] 24 (0, 0)) (by (with_reducible repeat (first | apply zC | apply zG | apply zD)); exact BK456.out)) : gb472 ≠ gb456))
   have n22_ := zA.mk ((by rw [hg]; exact Nat.ne_of_lt (yA (g := gb462) (o := .cells #[.int .i64 t457, .slice Ao57 t458.length co57] 24 (0, 0)) (by (with_reducible repeat (first | apply zC | apply zG | apply zD)); exact BK462.out)) : gb462 ≠ gb472))
   have n23_ := zA.mk ((by rw [hg]; exact Nat.ne_of_gt (yA (g := gb462) (o := .cells #[.int .i64 t457, .slice Ao57 t458.length co57] 24 (0, 0)) (by (with_reducible repeat (first | apply zC | apply zG | apply zD)); exact BK462.out)) : gb472 ≠ gb462))
   clear HO438 HO444 HO450 HO454 HO460 BK439 BK440 BK446 BK456 BK462 HB; have HO438 := n0_; have HO444 := n1_; have HO450 := n2_; have HO454 := n3_; have HO460 := n4_; have BK439 := n5_; have BK440 := n6_; have BK446 := n7_; have BK456 := n8_; have BK462 := n9_; have HB := n10_; have BK472 := n11_; have GW472 := n12_; have GE472 := n13_; have NB439_472 := n14_; have NB472_439 := n15_; have NB440_472 := n16_; have NB472_440 := n17_; have NB446_472 := n18_; have NB472_446 := n19_; have NB456_472 := n20_; have NB472_456 := n21_; have NB462_472 := n22_; have NB472_462 := n23_; clear n0_ n1_ n2_ n3_ n4_ n5_ n6_ n7_ n8_ n9_ n10_ n11_ n12_ n13_ n14_ n15_ n16_ n17_ n18_ n19_ n20_ n21_ n22_ n23_; clear hb hbox hg
   refine hK.out _ _ ⟨(zF BK439.out 0).trans rfl, (zF BK439.out 1).trans rfl, (zF BK440.out 0).trans rfl, (zF BK440.out 1).trans rfl⟩ (fun hHeld => ?_)
   clear hK K
   refine xA (a' := ?_) ?_ ?_
   rotate_left
   ·show Act.put _ (some 16) _ = _
    simp only [Act.put, List.setIfInBounds_toArray, List.set_cons_zero, List.set_cons_succ, zU, zV]
    rfl
   refine one_ (i := 2) (N := some 65) #[true, true, true, true, true, true, true, true, false, false, false, false, true, false, false] rfl rfl (qW HT_.out (by kernel_rfl)) (by decide) (fun K hK => ?_)
   refine qF Tryd.func31 (by kernel_rfl) rfl #[.agg #[.int .i64 t435, .slice Ao25 t436.length co25], .int .u64 a2] (by rfl) rfl rfl (by (try simp only [List.map_toArray, List.map_cons, List.map_nil]); first | done | rfl | (simp only [List.length_drop, List.length_take]; rfl)) ?_
   with_reducible refine (turnspitlaw09_turned.calls k t435 _ _ t436 a2 t463 t464 _ ?side1 ?side2 (by first | exact hT | ((repeat (first | exact hT | apply Tm.Emp.drewN | apply Tm.Emp.drew)); done) | exact Tm.Emp.below hT (by repeat (first | (with_reducible first | exact HB.out | apply zH | apply zI | apply zJ | refine zB ?_ (zA.out (by assumption))) | exact HB.out))) A11.out).mono ?_
   (case side1 => repeat (first | exact (Kd.yN HO438.out).2.2 | (with_reducible refine Kd.qR ?_ _) | (with_reducible refine Kd.qM ?_ _) | (with_reducible refine Kd.jH ?_)))
   (case side2 => exact (Kd.yN HO438.out).2.1)
   rintro e w61 ⟨v465, rfl, ho0, hb⟩
   refine ⟨_, rfl, ?_⟩
   have n0_ := zA.mk (Kd.yD (by (with_reducible repeat (first | apply Kd.zO | apply Kd.zM | apply Kd.zS)); exact HO438.out) (Kd.yQ ho0) hb)
   have n1_ := zA.mk (Kd.yD (by (with_reducible repeat (first | apply Kd.zO | apply Kd.zM | apply Kd.zS)); exact HO444.out) (Kd.yQ ho0) hb)
   have n2_ := zA.mk (Kd.yD (by (with_reducible repeat (first | apply Kd.zO | apply Kd.zM | apply Kd.zS)); exact HO450.out) (Kd.yQ ho0) hb)
   have n3_ := zA.mk (Kd.yD (by (with_reducible repeat (first | apply Kd.zO | apply Kd.zM | apply Kd.zS)); exact HO454.out) (Kd.yQ ho0) hb)
   have n4_ := zA.mk (Kd.yD (by (with_reducible repeat (first | apply Kd.zO | apply Kd.zM | apply Kd.zS)); exact HO460.out) (Kd.yQ ho0) hb)
   have n5_ := zA.mk (Kd.qB (Kd.yP (Kd.yP (Kd.yP (Kd.yP (Kd.yP ho0 (Kd.R_lt (by (with_reducible repeat (first | apply Kd.zO | apply Kd.zM | apply Kd.zS)); exact HO438.out))) (Kd.R_lt (by (with_reducible repeat (first | apply Kd.zO | apply Kd.zM | apply Kd.zS)); exact HO444.out))) (Kd.R_lt (by (with_reducible repeat (first | apply Kd.zO | apply Kd.zM | apply Kd.zS)); exact HO450.out))) (Kd.R_lt (by (with_reducible repeat (first | apply Kd.zO | apply Kd.zM | apply Kd.zS)); exact HO454.out))) (Kd.R_lt (by (with_reducible repeat (first | apply Kd.zO | apply Kd.zM | apply Kd.zS)); exact HO460.out))) (zW (by repeat (first | (with_reducible first | exact HB.out | apply zH | apply zI | apply zJ | refine zB ?_ GE439.out | refine zB ?_ GE440.out | refine zB ?_ GE446.out | refine zB ?_ GE456.out | refine zB ?_ GE462.out | refine zB ?_ GE472.out) | exact HB.out))))
   have n6_ := zA.mk (zK (g := gb439) (o := .cells #[.int .i64 t435, .slice Ao25 t436.length co25] 24 (0, 0)) (by (with_reducible repeat (first | apply zC | apply zG | apply zD)); exact BK439.out) hb)
   have n7_ := zA.mk (zK (g := gb440) (o := .cells #[.int .u64 (IntKind.u64.wrap (a0 + 7)), .int .i64 ((l1.length : Int) % 24)] 27 (0, 0)) (by (with_reducible repeat (first | apply zC | apply zG | apply zD)); exact BK440.out) hb)
   have n8_ := zA.mk (zK (g := gb446) (o := .cells #[.int .i64 t441, .slice Ao35 t442.length co35] 24 (0, 0)) (by (with_reducible repeat (first | apply zC | apply zG | apply zD)); exact BK446.out) hb)
   have n9_ := zA.mk (zK (g := gb456) (o := .cells #[.int .i64 t451, .slice Ao44 t452.length co44] 24 (0, 0)) (by (with_reducible repeat (first | apply zC | apply zG | apply zD)); exact BK456.out) hb)
   have n10_ := zA.mk (zK (g := gb462) (o := .cells #[.int .i64 t457, .slice Ao57 t458.length co57] 24 (0, 0)) (by (with_reducible repeat (first | apply zC | apply zG | apply zD)); exact BK462.out) hb)
   have n11_ := zA.mk (zK (g := gb472) (o := .cells #[.int .i64 0, .slice none 0 0] 24 (0, 0)) (by (with_reducible repeat (first | apply zC | apply zG | apply zD)); exact BK472.out) hb)
   have n12_ := zA.mk (zT (by repeat (first | (with_reducible first | exact HB.out | apply zH | apply zI | apply zJ | refine zB ?_ GE439.out | refine zB ?_ GE440.out | refine zB ?_ GE446.out | refine zB ?_ GE456.out | refine zB ?_ GE462.out | refine zB ?_ GE472.out) | exact HB.out)) hb)
   clear HO438 HO444 HO450 HO454 HO460 BK439 BK440 BK446 BK456 BK462 BK472 HB; have HO438 := n0_; have HO444 := n1_; have HO450 := n2_; have HO454 := n3_; have HO460 := n4_; have HO466 := n5_; have BK439 := n6_; have BK440 := n7_; have BK446 := n8_; have BK456 := n9_; have BK462 := n10_; have BK472 := n11_; have HB := n12_; clear n0_ n1_ n2_ n3_ n4_ n5_ n6_ n7_ n8_ n9_ n10_ n11_ n12_
   (try clear hb)
   (try clear hb2)
   (try clear hk)
   (try clear hi)
   (try clear ho0)
   obtain ⟨Ao62, co62, eo62⟩ := Kd.xV HO466.out
   (first | subst eo62 | (injection eo62 with f1_ f2_ f3_; have f4_ := f1_.symm; have f5_ := f3_.symm; clear f1_ f2_ f3_; subst f4_; subst f5_))
   refine hK.out _ _ ⟨(zF BK439.out 0).trans rfl, (zF BK439.out 1).trans rfl, (zF BK440.out 0).trans rfl, (zF BK440.out 1).trans rfl⟩ (fun hHeld => ?_)
   clear hK K
   refine xA (a' := ?_) ?_ ?_
   rotate_left
   ·show Act.put _ (some 65) _ = _
    simp only [Act.put, List.setIfInBounds_toArray, List.set_cons_zero, List.set_cons_succ, zU, zV]
    rfl
   refine one_ (i := 8) (N := some 71) #[true, true, true, true, true, true, true, true, true, false, false, false, true, false, false] rfl rfl (qW HT_.out (by kernel_rfl)) (by decide) (fun K hK => ?_)
   refine qF Tryd.func13 (by kernel_rfl) rfl #[.agg #[.int .i64 t463, .slice Ao62 t464.length co62], .int .u64 (IntKind.u64.wrap (a0 + a2)), .int .i64 ((l1.length : Int) % 24)] (by rfl) rfl rfl (by (try simp only [List.map_toArray, List.map_cons, List.map_nil]); first | done | rfl | (simp only [List.length_drop, List.length_take]; rfl)) ?_
   with_reducible refine (tree_Delete.calls t463 _ _ t464 (IntKind.u64.wrap (a0 + a2)) ((l1.length : Int) % 24) t467 t468 t471 _ ?side1 ?side2 (by first | exact hT | ((repeat (first | exact hT | apply Tm.Emp.drewN | apply Tm.Emp.drew)); done) | exact Tm.Emp.below hT (by repeat (first | (with_reducible first | exact HB.out | apply zH | apply zI | apply zJ | refine zB ?_ (zA.out (by assumption))) | exact HB.out))) A12.out).mono ?_
   (case side1 => repeat (first | exact (Kd.yN HO466.out).2.2 | (with_reducible refine Kd.qR ?_ _) | (with_reducible refine Kd.qM ?_ _) | (with_reducible refine Kd.jH ?_)))
   (case side2 => exact (Kd.yN HO466.out).2.1)
   rintro e w63 ⟨v469, rfl, ho0, hb⟩
   refine ⟨_, rfl, ?_⟩
   have n0_ := zA.mk (Kd.yD (by (with_reducible repeat (first | apply Kd.zO | apply Kd.zM | apply Kd.zS)); exact HO438.out) (Kd.yQ ho0) hb)
   have n1_ := zA.mk (Kd.yD (by (with_reducible repeat (first | apply Kd.zO | apply Kd.zM | apply Kd.zS)); exact HO444.out) (Kd.yQ ho0) hb)
   have n2_ := zA.mk (Kd.yD (by (with_reducible repeat (first | apply Kd.zO | apply Kd.zM | apply Kd.zS)); exact HO450.out) (Kd.yQ ho0) hb)
   have n3_ := zA.mk (Kd.yD (by (with_reducible repeat (first | apply Kd.zO | apply Kd.zM | apply Kd.zS)); exact HO454.out) (Kd.yQ ho0) hb)
   have n4_ := zA.mk (Kd.yD (by (with_reducible repeat (first | apply Kd.zO | apply Kd.zM | apply Kd.zS)); exact HO460.out) (Kd.yQ ho0) hb)
   have n5_ := zA.mk (Kd.yD (by (with_reducible repeat (first | apply Kd.zO | apply Kd.zM | apply Kd.zS)); exact HO466.out) (Kd.yQ ho0) hb)
   have n6_ := zA.mk (Kd.qB (Kd.yP (Kd.yP (Kd.yP (Kd.yP (Kd.yP (Kd.yP ho0 (Kd.R_lt (by (with_reducible repeat (first | apply Kd.zO | apply Kd.zM | apply Kd.zS)); exact HO438.out))) (Kd.R_lt (by (with_reducible repeat (first | apply Kd.zO | apply Kd.zM | apply Kd.zS)); exact HO444.out))) (Kd.R_lt (by (with_reducible repeat (first | apply Kd.zO | apply Kd.zM | apply Kd.zS)); exact HO450.out))) (Kd.R_lt (by (with_reducible repeat (first | apply Kd.zO | apply Kd.zM | apply Kd.zS)); exact HO454.out))) (Kd.R_lt (by (with_reducible repeat (first | apply Kd.zO | apply Kd.zM | apply Kd.zS)); exact HO460.out))) (Kd.R_lt (by (with_reducible repeat (first | apply Kd.zO | apply Kd.zM | apply Kd.zS)); exact HO466.out))) (zW (by repeat (first | (with_reducible first | exact HB.out | apply zH | apply zI | apply zJ | refine zB ?_ GE439.out | refine zB ?_ GE440.out | refine zB ?_ GE446.out | refine zB ?_ GE456.out | refine zB ?_ GE462.out | refine zB ?_ GE472.out) | exact HB.out))))
   have n7_ := zA.mk (zK (g := gb439) (o := .cells #[.int .i64 t435, .slice Ao25 t436.length co25] 24 (0, 0)) (by (with_reducible repeat (first | apply zC | apply zG | apply zD)); exact BK439.out) hb)
   have n8_ := zA.mk (zK (g := gb440) (o := .cells #[.int .u64 (IntKind.u64.wrap (a0 + 7)), .int .i64 ((l1.length : Int) % 24)] 27 (0, 0)) (by (with_reducible repeat (first | apply zC | apply zG | apply zD)); exact BK440.out) hb)
   have n9_ := zA.mk (zK (g := gb446) (o := .cells #[.int .i64 t441, .slice Ao35 t442.length co35] 24 (0, 0)) (by (with_reducible repeat (first | apply zC | apply zG | apply zD)); exact BK446.out) hb)
   have n10_ := zA.mk (zK (g := gb456) (o := .cells #[.int .i64 t451, .slice Ao44 t452.length co44] 24 (0, 0)) (by (with_reducible repeat (first | apply zC | apply zG | apply zD)); exact BK456.out) hb)
   have n11_ := zA.mk (zK (g := gb462) (o := .cells #[.int .i64 t457, .slice Ao57 t458.length co57] 24 (0, 0)) (by (with_reducible repeat (first | apply zC | apply zG | apply zD)); exact BK462.out) hb)
   have n12_ := zA.mk (zK (g := gb472) (o := .cells #[.int .i64 0, .slice none 0 0] 24 (0, 0)) (by (with_reducible repeat (first | apply zC | apply zG | apply zD)); exact BK472.out) hb)
   have n13_ := zA.mk (zT (by repeat (first | (with_reducible first | exact HB.out | apply zH | apply zI | apply zJ | refine zB ?_ GE439.out | refine zB ?_ GE440.out | refine zB ?_ GE446.out | refine zB ?_ GE456.out | refine zB ?_ GE462.out | refine zB ?_ GE472.out) | exact HB.out)) hb)
   clear HO438 HO444 HO450 HO454 HO460 HO466 BK439 BK440 BK446 BK456 BK462 BK472 HB; have HO438 := n0_; have HO444 := n1_; have HO450 := n2_; have HO454 := n3_; have HO460 := n4_; have HO466 := n5_; have HO470 := n6_; have BK439 := n7_; have BK440 := n8_; have BK446 := n9_; have BK456 := n10_; have BK462 := n11_; have BK472 := n12_; have HB := n13_; clear n0_ n1_ n2_ n3_ n4_ n5_ n6_ n7_ n8_ n9_ n10_ n11_ n12_ n13_
   (try clear hb)
   (try clear hb2)
   (try clear hk)
   (try clear hi)
   (try clear ho0)
   refine hK.out _ _ ⟨(zF BK439.out 0).trans rfl, (zF BK439.out 1).trans rfl, (zF BK440.out 0).trans rfl, (zF BK440.out 1).trans rfl⟩ (fun hHeld => ?_)
   clear hK K
   refine xA (a' := ?_) ?_ ?_
   rotate_left
   ·show Act.put _ (some 71) _ = _
    simp only [Act.put, List.setIfInBounds_toArray, List.set_cons_zero, List.set_cons_succ, zU, zV]
    rfl
   refine yB (i := 9) (N := some 62) (v := ?_) (a' := ?_) #[true, true, true, true, true, true, true, true, true, true, false, false, true, false, false] rfl rfl (yJ HT_.out (by kernel_rfl)) (fun _ _ _ h => h) (Or.inl ⟨by rfl, ?_⟩) ?_ ?_
   rotate_left
   ·intro w'
    go_simp
    with_reducible rfl
   rotate_left
   ·simp only [Act.put, List.setIfInBounds_toArray, List.set_cons_zero, List.set_cons_succ, zU, zV]
    rfl
   refine yB (i := 10) (N := some 72) (v := ?_) (a' := ?_) #[true, true, true, true, true, true, true, true, true, true, true, false, true, false, false] rfl rfl (yJ HT_.out (by kernel_rfl)) (fun _ _ _ h => h) (Or.inl ⟨by rfl, ?_⟩) ?_ ?_
   rotate_left
   ·intro w'
    go_simp
    with_reducible rfl
   rotate_left
   ·simp only [Act.put, List.setIfInBounds_toArray, List.set_cons_zero, List.set_cons_succ, zU, zV]
    rfl
   refine yB (i := 11) (N := some 73) (v := ?_) (a' := ?_) #[true, true, true, true, true, true, true, true, true, true, true, true, true, false, false] rfl rfl (yJ HT_.out (by kernel_rfl)) (fun _ _ _ h => h) (Or.inl ⟨by rfl, ?_⟩) ?_ ?_
   rotate_left
   ·intro w'
    go_simp
    with_reducible rfl
   rotate_left
   ·simp only [Act.put, List.setIfInBounds_toArray, List.set_cons_zero, List.set_cons_succ, zU, zV]
    rfl
   exact xA (by simp only [kJ, Act.put, List.setIfInBounds_toArray, List.set_cons_zero, List.set_cons_succ]) (hCont (.slice Ao62 t464.length co62, v469, gb472) _ ⟨hHeld, (by (with_reducible repeat (first | apply Kd.zO | apply Kd.zM | apply Kd.zS)); exact Kd.yF HO438.out (fun _ hk => ⟨hk.1.1.1, ⟨hk.1.1.2.1, ⟨hk.1.1.2.2.1, ⟨hk.1.1.2.2.2, ⟨hk.1.2, hk.2⟩⟩⟩⟩⟩)), (by (with_reducible repeat (first | apply Kd.zO | apply Kd.zM | apply Kd.zS)); exact Kd.yF HO444.out (fun _ hk => ⟨hk.1.1.1, ⟨hk.1.1.2.1, ⟨hk.1.1.2.2.1, ⟨hk.1.1.2.2.2, ⟨hk.1.2, hk.2⟩⟩⟩⟩⟩)), (by (with_reducible repeat (first | apply Kd.zO | apply Kd.zM | apply Kd.zS)); exact Kd.yF HO450.out (fun _ hk => ⟨hk.1.1.1, ⟨hk.1.1.2.1, ⟨hk.1.1.2.2.1, ⟨hk.1.1.2.2.2, ⟨hk.1.2, hk.2⟩⟩⟩⟩⟩)), (by (with_reducible repeat (first | apply Kd.zO | apply Kd.zM | apply Kd.zS)); exact Kd.yF HO454.out (fun _ hk => ⟨hk.1.1.1, ⟨hk.1.1.2.1, ⟨hk.1.1.2.2.1, ⟨hk.1.1.2.2.2, ⟨hk.1.2, hk.2⟩⟩⟩⟩⟩)), (by (with_reducible repeat (first | apply Kd.zO | apply Kd.zM | apply Kd.zS)); exact Kd.yF HO460.out (fun _ hk => ⟨hk.1.1.1, ⟨hk.1.1.2.1, ⟨hk.1.1.2.2.1, ⟨hk.1.1.2.2.2, ⟨hk.1.2, hk.2⟩⟩⟩⟩⟩)), (by (with_reducible repeat (first | apply Kd.zO | apply Kd.zM | apply Kd.zS)); exact Kd.yF HO466.out (fun _ hk => ⟨hk.1.1.1.1.1.2, ⟨hk.1.1.1.1.2, ⟨hk.1.1.1.2, ⟨hk.1.1.2, ⟨hk.1.2, hk.2⟩⟩⟩⟩⟩)), (by (with_reducible repeat (first | apply Kd.zO | apply Kd.zM | apply Kd.zS)); exact Kd.yF HO470.out (fun _ hk => ⟨hk.1.1.1.1.1.2, ⟨hk.1.1.1.1.2, ⟨hk.1.1.1.2, ⟨hk.1.1.2, ⟨hk.1.2, hk.2⟩⟩⟩⟩⟩)), (by (with_reducible repeat (first | apply zC | apply zG | apply zD)); exact BK439.out), (by (with_reducible repeat (first | apply zC | apply zG | apply zD)); exact BK440.out), (by (with_reducible repeat (first | apply zC | apply zG | apply zD)); exact BK446.out), (by (with_reducible repeat (first | apply zC | apply zG | apply zD)); exact BK456.out), (by (with_reducible repeat (first | apply zC | apply zG | apply zD)); exact BK462.out), (by (with_reducible repeat (first | apply zC | apply zG | apply zD)); exact BK472.out), GW472.out, GE472.out, NB439_472.out, NB472_439.out, NB440_472.out, NB472_440.out, NB446_472.out, NB472_446.out, NB456_472.out, NB472_456.out, NB462_472.out, NB472_462.out, (by repeat (first | (with_reducible first | exact HB.out | apply zH | apply zI | apply zJ | refine zB ?_ GE439.out | refine zB ?_ GE440.out | refine zB ?_ GE446.out | refine zB ?_ GE456.out | refine zB ?_ GE462.out | refine zB ?_ GE472.out) | exact HB.out))⟩)
 rintro ⟨v465, v469, gb472⟩ w64 ⟨hS_, h0_, h1_, h2_, h3_, h4_, h5_, h6_, h7_, h8_, h9_, h10_, h11_, h12_, h13_, h14_, h15_, h16_, h17_, h18_, h19_, h20_, h21_, h22_, h23_, h24_, h25_⟩
 have n0_ : zA (Kd.R k57 57 w64 w.heap.size (fun k_ => some k_ ≠ (.slice Ao35 t442.length co35 : Value).ownBlock ∧ some k_ ≠ (v449 : Value).ownBlock ∧ some k_ ≠ (.slice Ao44 t452.length co44 : Value).ownBlock ∧ some k_ ≠ (.slice Ao57 t458.length co57 : Value).ownBlock ∧ some k_ ≠ (v465 : Value).ownBlock ∧ some k_ ≠ (v469 : Value).ownBlock) (.slice Ao25 t436.length co25) t436) := ⟨h0_⟩
 have n1_ : zA (Kd.R k57 57 w64 w.heap.size (fun k_ => some k_ ≠ (.slice Ao25 t436.length co25 : Value).ownBlock ∧ some k_ ≠ (v449 : Value).ownBlock ∧ some k_ ≠ (.slice Ao44 t452.length co44 : Value).ownBlock ∧ some k_ ≠ (.slice Ao57 t458.length co57 : Value).ownBlock ∧ some k_ ≠ (v465 : Value).ownBlock ∧ some k_ ≠ (v469 : Value).ownBlock) (.slice Ao35 t442.length co35) t442) := ⟨h1_⟩
 have n2_ : zA (Kd.R k57 57 w64 w.heap.size (fun k_ => some k_ ≠ (.slice Ao25 t436.length co25 : Value).ownBlock ∧ some k_ ≠ (.slice Ao35 t442.length co35 : Value).ownBlock ∧ some k_ ≠ (.slice Ao44 t452.length co44 : Value).ownBlock ∧ some k_ ≠ (.slice Ao57 t458.length co57 : Value).ownBlock ∧ some k_ ≠ (v465 : Value).ownBlock ∧ some k_ ≠ (v469 : Value).ownBlock) v449 t448) := ⟨h2_⟩
 have n3_ : zA (Kd.R k57 57 w64 w.heap.size (fun k_ => some k_ ≠ (.slice Ao25 t436.length co25 : Value).ownBlock ∧ some k_ ≠ (.slice Ao35 t442.length co35 : Value).ownBlock ∧ some k_ ≠ (v449 : Value).ownBlock ∧ some k_ ≠ (.slice Ao57 t458.length co57 : Value).ownBlock ∧ some k_ ≠ (v465 : Value).ownBlock ∧ some k_ ≠ (v469 : Value).ownBlock) (.slice Ao44 t452.length co44) t452) := ⟨h3_⟩
 have n4_ : zA (Kd.R k57 57 w64 w.heap.size (fun k_ => some k_ ≠ (.slice Ao25 t436.length co25 : Value).ownBlock ∧ some k_ ≠ (.slice Ao35 t442.length co35 : Value).ownBlock ∧ some k_ ≠ (v449 : Value).ownBlock ∧ some k_ ≠ (.slice Ao44 t452.length co44 : Value).ownBlock ∧ some k_ ≠ (v465 : Value).ownBlock ∧ some k_ ≠ (v469 : Value).ownBlock) (.slice Ao57 t458.length co57) t458) := ⟨h4_⟩
 have n5_ : zA (Kd.R k57 57 w64 w.heap.size (fun k_ => some k_ ≠ (.slice Ao25 t436.length co25 : Value).ownBlock ∧ some k_ ≠ (.slice Ao35 t442.length co35 : Value).ownBlock ∧ some k_ ≠ (v449 : Value).ownBlock ∧ some k_ ≠ (.slice Ao44 t452.length co44 : Value).ownBlock ∧ some k_ ≠ (.slice Ao57 t458.length co57 : Value).ownBlock ∧ some k_ ≠ (v469 : Value).ownBlock) v465 t464) := ⟨h5_⟩
 have n6_ : zA (Kd.R k57 57 w64 w.heap.size (fun k_ => some k_ ≠ (.slice Ao25 t436.length co25 : Value).ownBlock ∧ some k_ ≠ (.slice Ao35 t442.length co35 : Value).ownBlock ∧ some k_ ≠ (v449 : Value).ownBlock ∧ some k_ ≠ (.slice Ao44 t452.length co44 : Value).ownBlock ∧ some k_ ≠ (.slice Ao57 t458.length co57 : Value).ownBlock ∧ some k_ ≠ (v465 : Value).ownBlock) v469 t468) := ⟨h6_⟩
 have n7_ : zA (w64.heap[gb439]? = some (.cells #[.int .i64 t435, .slice Ao25 t436.length co25] 24 (0, 0))) := ⟨h7_⟩
 have n8_ : zA (w64.heap[gb440]? = some (.cells #[.int .u64 (IntKind.u64.wrap (a0 + 7)), .int .i64 ((l1.length : Int) % 24)] 27 (0, 0))) := ⟨h8_⟩
 have n9_ : zA (w64.heap[gb446]? = some (.cells #[.int .i64 t441, .slice Ao35 t442.length co35] 24 (0, 0))) := ⟨h9_⟩
 have n10_ : zA (w64.heap[gb456]? = some (.cells #[.int .i64 t451, .slice Ao44 t452.length co44] 24 (0, 0))) := ⟨h10_⟩
 have n11_ : zA (w64.heap[gb462]? = some (.cells #[.int .i64 t457, .slice Ao57 t458.length co57] 24 (0, 0))) := ⟨h11_⟩
 have n12_ : zA (w64.heap[gb472]? = some (.cells #[.int .i64 0, .slice none 0 0] 24 (0, 0))) := ⟨h12_⟩
 have n13_ : zA (w.heap.size ≤ gb472) := ⟨h13_⟩
 have n14_ : zA (w.heap.size ≤ gb472) := ⟨h14_⟩
 have n15_ : zA (gb439 ≠ gb472) := ⟨h15_⟩
 have n16_ : zA (gb472 ≠ gb439) := ⟨h16_⟩
 have n17_ : zA (gb440 ≠ gb472) := ⟨h17_⟩
 have n18_ : zA (gb472 ≠ gb440) := ⟨h18_⟩
 have n19_ : zA (gb446 ≠ gb472) := ⟨h19_⟩
 have n20_ : zA (gb472 ≠ gb446) := ⟨h20_⟩
 have n21_ : zA (gb456 ≠ gb472) := ⟨h21_⟩
 have n22_ : zA (gb472 ≠ gb456) := ⟨h22_⟩
 have n23_ : zA (gb462 ≠ gb472) := ⟨h23_⟩
 have n24_ : zA (gb472 ≠ gb462) := ⟨h24_⟩
 have n25_ : zA (Below w.heap.size w w64) := ⟨h25_⟩
 clear HO438 HO444 HO450 HO454 HO460 BK439 BK440 BK446 BK456 BK462 HB; clear h0_ h1_ h2_ h3_ h4_ h5_ h6_ h7_ h8_ h9_ h10_ h11_ h12_ h13_ h14_ h15_ h16_ h17_ h18_ h19_ h20_ h21_ h22_ h23_ h24_ h25_; have HO438 := n0_; have HO444 := n1_; have HO450 := n2_; have HO454 := n3_; have HO460 := n4_; have HO466 := n5_; have HO470 := n6_; have BK439 := n7_; have BK440 := n8_; have BK446 := n9_; have BK456 := n10_; have BK462 := n11_; have BK472 := n12_; have GW472 := n13_; have GE472 := n14_; have NB439_472 := n15_; have NB472_439 := n16_; have NB440_472 := n17_; have NB472_440 := n18_; have NB446_472 := n19_; have NB472_446 := n20_; have NB456_472 := n21_; have NB472_456 := n22_; have NB462_472 := n23_; have NB472_462 := n24_; have HB := n25_; clear n0_ n1_ n2_ n3_ n4_ n5_ n6_ n7_ n8_ n9_ n10_ n11_ n12_ n13_ n14_ n15_ n16_ n17_ n18_ n19_ n20_ n21_ n22_ n23_ n24_ n25_
 have hHeld : w64.cell? ⟨gb439, 0, none⟩ = some (.int .i64 t435) ∧ w64.cell? ⟨gb439, 1, none⟩ = some (.slice Ao25 t436.length co25) ∧ w64.cell? ⟨gb440, 0, none⟩ = some (.int .u64 (IntKind.u64.wrap (a0 + 7))) ∧ w64.cell? ⟨gb440, 1, none⟩ = some (.int .i64 ((l1.length : Int) % 24)) := hS_
 obtain ⟨Ao66, co66, eo66⟩ := Kd.xV HO470.out
 (first | subst eo66 | (injection eo66 with f1_ f2_ f3_; have f4_ := f1_.symm; have f5_ := f3_.symm; clear f1_ f2_ f3_; subst f4_; subst f5_))
 refine xA (a' := ?_) ?_ ?_
 rotate_left
 ·simp only [kJ, Act.put, List.setIfInBounds_toArray, List.set_cons_zero, List.set_cons_succ]
  rfl
 refine one_ (i := 13) (N := none) #[true, true, true, true, true, true, true, true, true, true, true, true, true, true, false] rfl rfl (qW HT_.out (by kernel_rfl)) (by decide) (fun K hK => ?_)
 have hs65 : w64.cell? ⟨gb472, 0, none⟩ = some (.int .i64 0) := (zF BK472.out 0).trans rfl
 have hfs65 := zL BK472.out 0
 have hns65_0 := NB439_472.out; have hns65_1 := NB440_472.out; have hns65_2 := NB446_472.out; have hns65_3 := NB456_472.out; have hns65_4 := NB462_472.out; have hms65_0 := NB472_439.out; have hms65_1 := NB472_440.out; have hms65_2 := NB472_446.out; have hms65_3 := NB472_456.out; have hms65_4 := NB472_462.out
 have hs67 : w64.cell? ⟨gb472, 1, none⟩ = some (.slice none 0 0) := (zF BK472.out 1).trans rfl
 have hfs67 := zL BK472.out 1
 have hns67_0 := NB439_472.out; have hns67_1 := NB440_472.out; have hns67_2 := NB446_472.out; have hns67_3 := NB456_472.out; have hns67_4 := NB462_472.out; have hms67_0 := NB472_439.out; have hms67_1 := NB472_440.out; have hms67_2 := NB472_446.out; have hms67_3 := NB472_456.out; have hms67_4 := NB472_462.out
 refine zab (w1 := ?_) (by rfl) rfl ?_ ?_
 rotate_left
 ·go_simp
  rfl
 refine hK.out _ _ ⟨((cell_far (p := ⟨gb472, _, none⟩) NB439_472.out _).trans (((cell_far (p := ⟨gb472, _, none⟩) NB439_472.out _).trans (hHeld.1)))), ((cell_far (p := ⟨gb472, _, none⟩) NB439_472.out _).trans (((cell_far (p := ⟨gb472, _, none⟩) NB439_472.out _).trans (hHeld.2.1)))), ((cell_far (p := ⟨gb472, _, none⟩) NB440_472.out _).trans (((cell_far (p := ⟨gb472, _, none⟩) NB440_472.out _).trans (hHeld.2.2.1)))), ((cell_far (p := ⟨gb472, _, none⟩) NB440_472.out _).trans (((cell_far (p := ⟨gb472, _, none⟩) NB440_472.out _).trans (hHeld.2.2.2))))⟩ (fun hHeld => ?_)
 clear hK K
 refine yB (i := 14) (N := some 17) (v := ?_) (a' := ?_) #[true, true, true, true, true, true, true, true, true, true, true, true, true, true, true] rfl rfl (yJ HT_.out (by kernel_rfl)) (fun _ _ _ h => h) (Or.inl ⟨by rfl, ?_⟩) ?_ ?_
 rotate_left
 ·intro w'
  go_simp
  with_reducible rfl
 rotate_left
 ·simp only [Act.put, List.setIfInBounds_toArray, List.set_cons_zero, List.set_cons_succ, zU, zV]
  rfl
 refine vJ (zah HT_.out (by kernel_rfl)) ?_
 try go_wp2
 have n0_ : zA (Kd.R k57 57 ((w64.setCell ⟨gb472, 0, none⟩ (.int .i64 t467)).setCell ⟨gb472, 1, none⟩ (.slice Ao66 t468.length co66)) w.heap.size (fun k_ => some k_ ≠ (.slice Ao35 t442.length co35 : Value).ownBlock ∧ some k_ ≠ (v449 : Value).ownBlock ∧ some k_ ≠ (.slice Ao44 t452.length co44 : Value).ownBlock ∧ some k_ ≠ (.slice Ao57 t458.length co57 : Value).ownBlock ∧ some k_ ≠ (v465 : Value).ownBlock ∧ some k_ ≠ (.slice Ao66 t468.length co66 : Value).ownBlock) (.slice Ao25 t436.length co25) t436) := ⟨by (with_reducible repeat (first | apply Kd.zO | apply Kd.zM | apply Kd.zS)); exact Kd.yF (Kd.yH (p := ⟨gb472, 1, none⟩) (Kd.yH (p := ⟨gb472, 0, none⟩) (Kd.yR HO438.out BK472.out (by decide)) (fun _ hk => hk.2) (.int .i64 t467)) (fun _ hk => hk.2) (.slice Ao66 t468.length co66)) (fun _ hk => ⟨hk.1.1, ⟨hk.1.2.1, ⟨hk.1.2.2.1, ⟨hk.1.2.2.2.1, ⟨hk.1.2.2.2.2.1, hk.1.2.2.2.2.2⟩⟩⟩⟩⟩)⟩
 have n1_ : zA (Kd.R k57 57 ((w64.setCell ⟨gb472, 0, none⟩ (.int .i64 t467)).setCell ⟨gb472, 1, none⟩ (.slice Ao66 t468.length co66)) w.heap.size (fun k_ => some k_ ≠ (.slice Ao25 t436.length co25 : Value).ownBlock ∧ some k_ ≠ (v449 : Value).ownBlock ∧ some k_ ≠ (.slice Ao44 t452.length co44 : Value).ownBlock ∧ some k_ ≠ (.slice Ao57 t458.length co57 : Value).ownBlock ∧ some k_ ≠ (v465 : Value).ownBlock ∧ some k_ ≠ (.slice Ao66 t468.length co66 : Value).ownBlock) (.slice Ao35 t442.length co35) t442) := ⟨by (with_reducible repeat (first | apply Kd.zO | apply Kd.zM | apply Kd.zS)); exact Kd.yF (Kd.yH (p := ⟨gb472, 1, none⟩) (Kd.yH (p := ⟨gb472, 0, none⟩) (Kd.yR HO444.out BK472.out (by decide)) (fun _ hk => hk.2) (.int .i64 t467)) (fun _ hk => hk.2) (.slice Ao66 t468.length co66)) (fun _ hk => ⟨hk.1.1, ⟨hk.1.2.1, ⟨hk.1.2.2.1, ⟨hk.1.2.2.2.1, ⟨hk.1.2.2.2.2.1, hk.1.2.2.2.2.2⟩⟩⟩⟩⟩)⟩
 have n2_ : zA (Kd.R k57 57 ((w64.setCell ⟨gb472, 0, none⟩ (.int .i64 t467)).setCell ⟨gb472, 1, none⟩ (.slice Ao66 t468.length co66)) w.heap.size (fun k_ => some k_ ≠ (.slice Ao25 t436.length co25 : Value).ownBlock ∧ some k_ ≠ (.slice Ao35 t442.length co35 : Value).ownBlock ∧ some k_ ≠ (.slice Ao44 t452.length co44 : Value).ownBlock ∧ some k_ ≠ (.slice Ao57 t458.length co57 : Value).ownBlock ∧ some k_ ≠ (v465 : Value).ownBlock ∧ some k_ ≠ (.slice Ao66 t468.length co66 : Value).ownBlock) v449 t448) := ⟨by (with_reducible repeat (first | apply Kd.zO | apply Kd.zM | apply Kd.zS)); exact Kd.yF (Kd.yH (p := ⟨gb472, 1, none⟩) (Kd.yH (p := ⟨gb472, 0, none⟩) (Kd.yR HO450.out BK472.out (by decide)) (fun _ hk => hk.2) (.int .i64 t467)) (fun _ hk => hk.2) (.slice Ao66 t468.length co66)) (fun _ hk => ⟨hk.1.1, ⟨hk.1.2.1, ⟨hk.1.2.2.1, ⟨hk.1.2.2.2.1, ⟨hk.1.2.2.2.2.1, hk.1.2.2.2.2.2⟩⟩⟩⟩⟩)⟩
 have n3_ : zA (Kd.R k57 57 ((w64.setCell ⟨gb472, 0, none⟩ (.int .i64 t467)).setCell ⟨gb472, 1, none⟩ (.slice Ao66 t468.length co66)) w.heap.size (fun k_ => some k_ ≠ (.slice Ao25 t436.length co25 : Value).ownBlock ∧ some k_ ≠ (.slice Ao35 t442.length co35 : Value).ownBlock ∧ some k_ ≠ (v449 : Value).ownBlock ∧ some k_ ≠ (.slice Ao57 t458.length co57 : Value).ownBlock ∧ some k_ ≠ (v465 : Value).ownBlock ∧ some k_ ≠ (.slice Ao66 t468.length co66 : Value).ownBlock) (.slice Ao44 t452.length co44) t452) := ⟨by (with_reducible repeat (first | apply Kd.zO | apply Kd.zM | apply Kd.zS)); exact Kd.yF (Kd.yH (p := ⟨gb472, 1, none⟩) (Kd.yH (p := ⟨gb472, 0, none⟩) (Kd.yR HO454.out BK472.out (by decide)) (fun _ hk => hk.2) (.int .i64 t467)) (fun _ hk => hk.2) (.slice Ao66 t468.length co66)) (fun _ hk => ⟨hk.1.1, ⟨hk.1.2.1, ⟨hk.1.2.2.1, ⟨hk.1.2.2.2.1, ⟨hk.1.2.2.2.2.1, hk.1.2.2.2.2.2⟩⟩⟩⟩⟩)⟩
 have n4_ : zA (Kd.R k57 57 ((w64.setCell ⟨gb472, 0, none⟩ (.int .i64 t467)).setCell ⟨gb472, 1, none⟩ (.slice Ao66 t468.length co66)) w.heap.size (fun k_ => some k_ ≠ (.slice Ao25 t436.length co25 : Value).ownBlock ∧ some k_ ≠ (.slice Ao35 t442.length co35 : Value).ownBlock ∧ some k_ ≠ (v449 : Value).ownBlock ∧ some k_ ≠ (.slice Ao44 t452.length co44 : Value).ownBlock ∧ some k_ ≠ (v465 : Value).ownBlock ∧ some k_ ≠ (.slice Ao66 t468.length co66 : Value).ownBlock) (.slice Ao57 t458.length co57) t458) := ⟨by (with_reducible repeat (first | apply Kd.zO | apply Kd.zM | apply Kd.zS)); exact Kd.yF (Kd.yH (p := ⟨gb472, 1, none⟩) (Kd.yH (p := ⟨gb472, 0, none⟩) (Kd.yR HO460.out BK472.out (by decide)) (fun _ hk => hk.2) (.int .i64 t467)) (fun _ hk => hk.2) (.slice Ao66 t468.length co66)) (fun _ hk => ⟨hk.1.1, ⟨hk.1.2.1, ⟨hk.1.2.2.1, ⟨hk.1.2.2.2.1, ⟨hk.1.2.2.2.2.1, hk.1.2.2.2.2.2⟩⟩⟩⟩⟩)⟩
 have n5_ : zA (Kd.R k57 57 ((w64.setCell ⟨gb472, 0, none⟩ (.int .i64 t467)).setCell ⟨gb472, 1, none⟩ (.slice Ao66 t468.length co66)) w.heap.size (fun k_ => some k_ ≠ (.slice Ao25 t436.length co25 : Value).ownBlock ∧ some k_ ≠ (.slice Ao35 t442.length co35 : Value).ownBlock ∧ some k_ ≠ (v449 : Value).ownBlock ∧ some k_ ≠ (.slice Ao44 t452.length co44 : Value).ownBlock ∧ some k_ ≠ (.slice Ao57 t458.length co57 : Value).ownBlock ∧ some k_ ≠ (.slice Ao66 t468.length co66 : Value).ownBlock) v465 t464) := ⟨by (with_reducible repeat (first | apply Kd.zO | apply Kd.zM | apply Kd.zS)); exact Kd.yF (Kd.yH (p := ⟨gb472, 1, none⟩) (Kd.yH (p := ⟨gb472, 0, none⟩) (Kd.yR HO466.out BK472.out (by decide)) (fun _ hk => hk.2) (.int .i64 t467)) (fun _ hk => hk.2) (.slice Ao66 t468.length co66)) (fun _ hk => ⟨hk.1.1, ⟨hk.1.2.1, ⟨hk.1.2.2.1, ⟨hk.1.2.2.2.1, ⟨hk.1.2.2.2.2.1, hk.1.2.2.2.2.2⟩⟩⟩⟩⟩)⟩
 have n6_ : zA (Kd.R k57 57 ((w64.setCell ⟨gb472, 0, none⟩ (.int .i64 t467)).setCell ⟨gb472, 1, none⟩ (.slice Ao66 t468.length co66)) w.heap.size (fun k_ => some k_ ≠ (.slice Ao25 t436.length co25 : Value).ownBlock ∧ some k_ ≠ (.slice Ao35 t442.length co35 : Value).ownBlock ∧ some k_ ≠ (v449 : Value).ownBlock ∧ some k_ ≠ (.slice Ao44 t452.length co44 : Value).ownBlock ∧ some k_ ≠ (.slice Ao57 t458.length co57 : Value).ownBlock ∧ some k_ ≠ (v465 : Value).ownBlock) (.slice Ao66 t468.length co66) t468) := ⟨by (with_reducible repeat (first | apply Kd.zO | apply Kd.zM | apply Kd.zS)); exact Kd.yF (Kd.yH (p := ⟨gb472, 1, none⟩) (Kd.yH (p := ⟨gb472, 0, none⟩) (Kd.yR HO470.out BK472.out (by decide)) (fun _ hk => hk.2) (.int .i64 t467)) (fun _ hk => hk.2) (.slice Ao66 t468.length co66)) (fun _ hk => ⟨hk.1.1, ⟨hk.1.2.1, ⟨hk.1.2.2.1, ⟨hk.1.2.2.2.1, ⟨hk.1.2.2.2.2.1, hk.1.2.2.2.2.2⟩⟩⟩⟩⟩)⟩
 have n7_ : zA (((w64.setCell ⟨gb472, 0, none⟩ (.int .i64 t467)).setCell ⟨gb472, 1, none⟩ (.slice Ao66 t468.length co66)).heap[gb439]? = some (.cells #[.int .i64 t435, .slice Ao25 t436.length co25] 24 (0, 0))) := ⟨by (with_reducible repeat (first | apply zC | apply zG | apply zD)); refine zX ?_ NB439_472.out _; (with_reducible repeat (first | apply zC | apply zG | apply zD)); refine zX ?_ NB439_472.out _; (with_reducible repeat (first | apply zC | apply zG | apply zD)); exact BK439.out⟩
 have n8_ : zA (((w64.setCell ⟨gb472, 0, none⟩ (.int .i64 t467)).setCell ⟨gb472, 1, none⟩ (.slice Ao66 t468.length co66)).heap[gb440]? = some (.cells #[.int .u64 (IntKind.u64.wrap (a0 + 7)), .int .i64 ((l1.length : Int) % 24)] 27 (0, 0))) := ⟨by (with_reducible repeat (first | apply zC | apply zG | apply zD)); refine zX ?_ NB440_472.out _; (with_reducible repeat (first | apply zC | apply zG | apply zD)); refine zX ?_ NB440_472.out _; (with_reducible repeat (first | apply zC | apply zG | apply zD)); exact BK440.out⟩
 have n9_ : zA (((w64.setCell ⟨gb472, 0, none⟩ (.int .i64 t467)).setCell ⟨gb472, 1, none⟩ (.slice Ao66 t468.length co66)).heap[gb446]? = some (.cells #[.int .i64 t441, .slice Ao35 t442.length co35] 24 (0, 0))) := ⟨by (with_reducible repeat (first | apply zC | apply zG | apply zD)); refine zX ?_ NB446_472.out _; (with_reducible repeat (first | apply zC | apply zG | apply zD)); refine zX ?_ NB446_472.out _; (with_reducible repeat (first | apply zC | apply zG | apply zD)); exact BK446.out⟩
 have n10_ : zA (((w64.setCell ⟨gb472, 0, none⟩ (.int .i64 t467)).setCell ⟨gb472, 1, none⟩ (.slice Ao66 t468.length co66)).heap[gb456]? = some (.cells #[.int .i64 t451, .slice Ao44 t452.length co44] 24 (0, 0))) := ⟨by (with_reducible repeat (first | apply zC | apply zG | apply zD)); refine zX ?_ NB456_472.out _; (with_reducible repeat (first | apply zC | apply zG | apply zD)); refine zX ?_ NB456_472.out _; (with_reducible repeat (first | apply zC | apply zG | apply zD)); exact BK456.out⟩
 have n11_ : zA (((w64.setCell ⟨gb472, 0, none⟩ (.int .i64 t467)).setCell ⟨gb472, 1, none⟩ (.slice Ao66 t468.length co66)).heap[gb462]? = some (.cells #[.int .i64 t457, .slice Ao57 t458.length co57] 24 (0, 0))) := ⟨by (with_reducible repeat (first | apply zC | apply zG | apply zD)); refine zX ?_ NB462_472.out _; (with_reducible repeat (first | apply zC | apply zG | apply zD)); refine zX ?_ NB462_472.out _; (with_reducible repeat (first | apply zC | apply zG | apply zD)); exact BK462.out⟩
 have n12_ : zA (((w64.setCell ⟨gb472, 0, none⟩ (.int .i64 t467)).setCell ⟨gb472, 1, none⟩ (.slice Ao66 t468.length co66)).heap[gb472]? = some (.cells #[.int .i64 t467, .slice Ao66 t468.length co66] 24 (0, 0))) := ⟨by (with_reducible repeat (first | apply zC | apply zG | apply zD)); refine yK (cs := #[.int .i64 t467, .slice none 0 0]) ?_ 1 _ rfl; (with_reducible repeat (first | apply zC | apply zG | apply zD)); refine yK (cs := #[.int .i64 0, .slice none 0 0]) ?_ 0 _ rfl; (with_reducible repeat (first | apply zC | apply zG | apply zD)); exact BK472.out⟩
 have n13_ : zA (Below w.heap.size w ((w64.setCell ⟨gb472, 0, none⟩ (.int .i64 t467)).setCell ⟨gb472, 1, none⟩ (.slice Ao66 t468.length co66))) := ⟨by repeat (first | (with_reducible first | exact HB.out | apply zH | apply zI | apply zJ | refine zB ?_ GE439.out | refine zB ?_ GE440.out | refine zB ?_ GE446.out | refine zB ?_ GE456.out | refine zB ?_ GE462.out | refine zB ?_ GE472.out) | exact HB.out)⟩
 (try clear HO438)
 (try clear HO444)
 (try clear HO450)
 (try clear HO454)
 (try clear HO460)
 (try clear HO466)
 (try clear HO470)
 (try clear BK439)
 (try clear BK440)
 (try clear BK446)
 (try clear BK456)
 (try clear BK462)
 (try clear BK472)
 (try clear HB)
 generalize ((w64.setCell ⟨gb472, 0, none⟩ (.int .i64 t467)).setCell ⟨gb472, 1, none⟩ (.slice Ao66 t468.length co66)) = w68 at n0_ n1_ n2_ n3_ n4_ n5_ n6_ n7_ n8_ n9_ n10_ n11_ n12_ n13_ ⊢
 have HO438 := n0_; have HO444 := n1_; have HO450 := n2_; have HO454 := n3_; have HO460 := n4_; have HO466 := n5_; have HO470 := n6_; have BK439 := n7_; have BK440 := n8_; have BK446 := n9_; have BK456 := n10_; have BK462 := n11_; have BK472 := n12_; have HB := n13_; clear n0_ n1_ n2_ n3_ n4_ n5_ n6_ n7_ n8_ n9_ n10_ n11_ n12_ n13_
 have n0_ := zA.mk (Kd.zS HO438.out)
 have n1_ := zA.mk (Kd.zS HO444.out)
 have n2_ := zA.mk (Kd.zS HO450.out)
 have n3_ := zA.mk (Kd.zS HO454.out)
 have n4_ := zA.mk (Kd.zS HO460.out)
 have n5_ := zA.mk (Kd.zS HO466.out)
 have n6_ := zA.mk (Kd.zS HO470.out)
 have n7_ := zA.mk (zG BK439.out)
 have n8_ := zA.mk (zG BK440.out)
 have n9_ := zA.mk (zG BK446.out)
 have n10_ := zA.mk (zG BK456.out)
 have n11_ := zA.mk (zG BK462.out)
 have n12_ := zA.mk (zG BK472.out)
 have n13_ := zA.mk (zJ HB.out)
 clear HO438 HO444 HO450 HO454 HO460 HO466 HO470 BK439 BK440 BK446 BK456 BK462 BK472 HB; have HO438 := n0_; have HO444 := n1_; have HO450 := n2_; have HO454 := n3_; have HO460 := n4_; have HO466 := n5_; have HO470 := n6_; have BK439 := n7_; have BK440 := n8_; have BK446 := n9_; have BK456 := n10_; have BK462 := n11_; have BK472 := n12_; have HB := n13_; clear n0_ n1_ n2_ n3_ n4_ n5_ n6_ n7_ n8_ n9_ n10_ n11_ n12_ n13_
 refine jQ (n := 33) (S := fun w' => w'.cell? ⟨gb446, 0, none⟩ = some (.int .i64 t441) ∧ w'.cell? ⟨gb446, 1, none⟩ = some (.slice Ao35 t442.length co35) ∧ w'.cell? ⟨gb456, 0, none⟩ = some (.int .i64 t451) ∧ w'.cell? ⟨gb456, 1, none⟩ = some (.slice Ao44 t452.length co44) ∧ w'.cell? ⟨gb462, 0, none⟩ = some (.int .i64 t457) ∧ w'.cell? ⟨gb462, 1, none⟩ = some (.slice Ao57 t458.length co57) ∧ w'.cell? ⟨gb472, 0, none⟩ = some (.int .i64 t467) ∧ w'.cell? ⟨gb472, 1, none⟩ = some (.slice Ao66 t468.length co66)) (ds := []) #[false, false, false, false, false, false, false, false, false, false, false, false, false, false, false, false, false, false, false, false, false, false, false, false, false, false, false, false, false, false, false, false, false] (by kernel_rfl) rfl rfl ⟨(zF BK446.out 0).trans rfl, (zF BK446.out 1).trans rfl, (zF BK456.out 0).trans rfl, (zF BK456.out 1).trans rfl, (zF BK462.out 0).trans rfl, (zF BK462.out 1).trans rfl, (zF BK472.out 0).trans rfl, (zF BK472.out 1).trans rfl⟩ (fun hHeld => ?_); refine wK turnspitlaw09_TreeTurns.tab10 turnspitlaw09_TreeTurns.bits10 (fun HT_ HW_ => ?_)
 generalize w68.drew = w69 at HO438 HO444 HO450 HO454 HO460 HO466 HO470 BK439 BK440 BK446 BK456 BK462 BK472 HB hHeld ⊢
 refine yB (i := 0) (N := some 74) (v := ?_) (a' := ?_) #[true, false, false, false, false, false, false, false, false, false, false, false, false, false, false, false, false, false, false, false, false, false, false, false, false, false, false, false, false, false, false, false, false] rfl rfl (yJ HT_.out (by kernel_rfl)) (fun _ _ _ h => h) (Or.inl ⟨by rfl, ?_⟩) ?_ ?_
 rotate_left
 ·intro w'
  go_simp
  with_reducible rfl
 rotate_left
 ·simp only [Act.put, List.setIfInBounds_toArray, List.set_cons_zero, List.set_cons_succ, zU, zV]
  rfl
 refine yB (i := 1) (N := some 75) (v := ?_) (a' := ?_) #[true, true, false, false, false, false, false, false, false, false, false, false, false, false, false, false, false, false, false, false, false, false, false, false, false, false, false, false, false, false, false, false, false] rfl rfl (yJ HT_.out (by kernel_rfl)) (fun _ _ _ h => h) (Or.inl ⟨by rfl, ?_⟩) ?_ ?_
 rotate_left
 ·intro w'
  go_simp
  with_reducible rfl
 rotate_left
 ·simp only [Act.put, List.setIfInBounds_toArray, List.set_cons_zero, List.set_cons_succ, zU, zV]
  rfl
 refine yB (i := 2) (N := some 76) (v := ?_) (a' := ?_) #[true, true, true, false, false, false, false, false, false, false, false, false, false, false, false, false, false, false, false, false, false, false, false, false, false, false, false, false, false, false, false, false, false] rfl rfl (yJ HT_.out (by kernel_rfl)) (fun _ _ _ h => h) (Or.inl ⟨by rfl, ?_⟩) ?_ ?_
 rotate_left
 ·intro w'
  go_simp
  with_reducible rfl
 rotate_left
 ·simp only [Act.put, List.setIfInBounds_toArray, List.set_cons_zero, List.set_cons_succ, zU, zV]
  rfl
 refine yB (i := 3) (N := some 77) (v := ?_) (a' := ?_) #[true, true, true, true, false, false, false, false, false, false, false, false, false, false, false, false, false, false, false, false, false, false, false, false, false, false, false, false, false, false, false, false, false] rfl rfl (yJ HT_.out (by kernel_rfl)) (fun _ _ _ h => h) (Or.inl ⟨by rfl, ?_⟩) ?_ ?_
 rotate_left
 ·intro w'
  go_simp
  with_reducible rfl
 rotate_left
 ·simp only [Act.put, List.setIfInBounds_toArray, List.set_cons_zero, List.set_cons_succ, zU, zV]
  rfl
 refine yB (i := 4) (N := some 78) (v := ?_) (a' := ?_) #[true, true, true, true, true, false, false, false, false, false, false, false, false, false, false, false, false, false, false, false, false, false, false, false, false, false, false, false, false, false, false, false, false] rfl rfl (yJ HT_.out (by kernel_rfl)) (fun _ _ _ h => h) (Or.inl ⟨by rfl, ?_⟩) ?_ ?_
 rotate_left
 ·intro w'
  go_simp
  with_reducible rfl
 rotate_left
 ·simp only [Act.put, List.setIfInBounds_toArray, List.set_cons_zero, List.set_cons_succ, zU, zV]
  rfl
 refine yB (i := 5) (N := some 79) (v := ?_) (a' := ?_) #[true, true, true, true, true, true, false, false, false, false, false, false, false, false, false, false, false, false, false, false, false, false, false, false, false, false, false, false, false, false, false, false, false] rfl rfl (yJ HT_.out (by kernel_rfl)) (fun _ _ _ h => h) (Or.inl ⟨by rfl, ?_⟩) ?_ ?_
 rotate_left
 ·intro w'
  go_simp
  with_reducible rfl
 rotate_left
 ·simp only [Act.put, List.setIfInBounds_toArray, List.set_cons_zero, List.set_cons_succ, zU, zV]
  rfl
 refine yB (i := 6) (N := some 80) (v := ?_) (a' := ?_) #[true, true, true, true, true, true, true, false, false, false, false, false, false, false, false, false, false, false, false, false, false, false, false, false, false, false, false, false, false, false, false, false, false] rfl rfl (yJ HT_.out (by kernel_rfl)) (fun _ _ _ h => h) (Or.inl ⟨by rfl, ?_⟩) ?_ ?_
 rotate_left
 ·intro w'
  go_simp
  with_reducible rfl
 rotate_left
 ·simp only [Act.put, List.setIfInBounds_toArray, List.set_cons_zero, List.set_cons_succ, zU, zV]
  rfl
 refine yB (i := 7) (N := some 81) (v := ?_) (a' := ?_) #[true, true, true, true, true, true, true, true, false, false, false, false, false, false, false, false, false, false, false, false, false, false, false, false, false, false, false, false, false, false, false, false, false] rfl rfl (yJ HT_.out (by kernel_rfl)) (fun _ _ _ h => h) (Or.inl ⟨by rfl, ?_⟩) ?_ ?_
 rotate_left
 ·intro w'
  go_simp
  with_reducible rfl
 rotate_left
 ·simp only [Act.put, List.setIfInBounds_toArray, List.set_cons_zero, List.set_cons_succ, zU, zV]
  rfl
 refine yB (i := 8) (N := some 82) (v := ?_) (a' := ?_) #[true, true, true, true, true, true, true, true, true, false, false, false, false, false, false, false, false, false, false, false, false, false, false, false, false, false, false, false, false, false, false, false, false] rfl rfl (yJ HT_.out (by kernel_rfl)) (fun _ _ _ h => h) (Or.inl ⟨by rfl, ?_⟩) ?_ ?_
 rotate_left
 ·intro w'
  go_simp
  with_reducible rfl
 rotate_left
 ·simp only [Act.put, List.setIfInBounds_toArray, List.set_cons_zero, List.set_cons_succ, zU, zV]
  rfl
 refine yB (i := 9) (N := some 83) (v := ?_) (a' := ?_) #[true, true, true, true, true, true, true, true, true, true, false, false, false, false, false, false, false, false, false, false, false, false, false, false, false, false, false, false, false, false, false, false, false] rfl rfl (yJ HT_.out (by kernel_rfl)) (fun _ _ _ h => h) (Or.inl ⟨by rfl, ?_⟩) ?_ ?_
 rotate_left
 ·intro w'
  go_simp
  with_reducible rfl
 rotate_left
 ·simp only [Act.put, List.setIfInBounds_toArray, List.set_cons_zero, List.set_cons_succ, zU, zV]
  rfl
 refine yB (i := 10) (N := some 84) (v := ?_) (a' := ?_) #[true, true, true, true, true, true, true, true, true, true, true, false, false, false, false, false, false, false, false, false, false, false, false, false, false, false, false, false, false, false, false, false, false] rfl rfl (yJ HT_.out (by kernel_rfl)) (fun _ _ _ h => h) (Or.inl ⟨by rfl, ?_⟩) ?_ ?_
 rotate_left
 ·intro w'
  go_simp
  with_reducible rfl
 rotate_left
 ·simp only [Act.put, List.setIfInBounds_toArray, List.set_cons_zero, List.set_cons_succ, zU, zV]
  rfl
 refine yB (i := 11) (N := some 85) (v := ?_) (a' := ?_) #[true, true, true, true, true, true, true, true, true, true, true, true, false, false, false, false, false, false, false, false, false, false, false, false, false, false, false, false, false, false, false, false, false] rfl rfl (yJ HT_.out (by kernel_rfl)) (fun _ _ _ h => h) (Or.inl ⟨by rfl, ?_⟩) ?_ ?_
 rotate_left
 ·intro w'
  go_simp
  with_reducible rfl
 rotate_left
 ·simp only [Act.put, List.setIfInBounds_toArray, List.set_cons_zero, List.set_cons_succ, zU, zV]
  rfl
 refine yB (i := 12) (N := some 86) (v := ?_) (a' := ?_) #[true, true, true, true, true, true, true, true, true, true, true, true, true, false, false, false, false, false, false, false, false, false, false, false, false, false, false, false, false, false, false, false, false] rfl rfl (yJ HT_.out (by kernel_rfl)) (fun _ _ _ h => h) (Or.inl ⟨by rfl, ?_⟩) ?_ ?_
 rotate_left
 ·intro w'
  go_simp
  with_reducible rfl
 rotate_left
 ·simp only [Act.put, List.setIfInBounds_toArray, List.set_cons_zero, List.set_cons_succ, zU, zV]
  rfl
 refine yB (i := 13) (N := some 87) (v := ?_) (a' := ?_) #[true, true, true, true, true, true, true, true, true, true, true, true, true, true, false, false, false, false, false, false, false, false, false, false, false, false, false, false, false, false, false, false, false] rfl rfl (yJ HT_.out (by kernel_rfl)) (fun _ _ _ h => h) (Or.inl ⟨by rfl, ?_⟩) ?_ ?_
 rotate_left
 ·intro w'
  go_simp
  with_reducible rfl
 rotate_left
 ·simp only [Act.put, List.setIfInBounds_toArray, List.set_cons_zero, List.set_cons_succ, zU, zV]
  rfl
 refine yB (i := 14) (N := some 88) (v := ?_) (a' := ?_) #[true, true, true, true, true, true, true, true, true, true, true, true, true, true, true, false, false, false, false, false, false, false, false, false, false, false, false, false, false, false, false, false, false] rfl rfl (yJ HT_.out (by kernel_rfl)) (fun _ _ _ h => h) (Or.inl ⟨by rfl, ?_⟩) ?_ ?_
 rotate_left
 ·intro w'
  go_simp
  with_reducible rfl
 rotate_left
 ·simp only [Act.put, List.setIfInBounds_toArray, List.set_cons_zero, List.set_cons_succ, zU, zV]
  rfl
 refine yB (i := 15) (N := some 89) (v := ?_) (a' := ?_) #[true, true, true, true, true, true, true, true, true, true, true, true, true, true, true, true, false, false, false, false, false, false, false, false, false, false, false, false, false, false, false, false, false] rfl rfl (yJ HT_.out (by kernel_rfl)) (fun _ _ _ h => h) (Or.inl ⟨by rfl, ?_⟩) ?_ ?_
 rotate_left
 ·intro w'
  go_simp
  with_reducible rfl
 rotate_left
 ·simp only [Act.put, List.setIfInBounds_toArray, List.set_cons_zero, List.set_cons_succ, zU, zV]
  rfl
 refine yB (i := 16) (N := some 90) (v := ?_) (a' := ?_) #[true, true, true, true, true, true, true, true, true, true, true, true, true, true, true, true, true, false, false, false, false, false, false, false, false, false, false, false, false, false, false, false, false] rfl rfl (yJ HT_.out (by kernel_rfl)) (fun _ _ _ h => h) (Or.inl ⟨by rfl, ?_⟩) ?_ ?_
 rotate_left
 ·intro w'
  go_simp
  with_reducible rfl
 rotate_left
 ·simp only [Act.put, List.setIfInBounds_toArray, List.set_cons_zero, List.set_cons_succ, zU, zV]
  rfl
 refine yB (i := 17) (N := some 91) (v := ?_) (a' := ?_) #[true, true, true, true, true, true, true, true, true, true, true, true, true, true, true, true, true, true, false, false, false, false, false, false, false, false, false, false, false, false, false, false, false] rfl rfl (yJ HT_.out (by kernel_rfl)) (fun _ _ _ h => h) (Or.inl ⟨by rfl, ?_⟩) ?_ ?_
 rotate_left
 ·intro w'
  go_simp
  with_reducible rfl
 rotate_left
 ·simp only [Act.put, List.setIfInBounds_toArray, List.set_cons_zero, List.set_cons_succ, zU, zV]
  rfl
 refine yB (i := 18) (N := some 92) (v := ?_) (a' := ?_) #[true, true, true, true, true, true, true, true, true, true, true, true, true, true, true, true, true, true, true, false, false, false, false, false, false, false, false, false, false, false, false, false, false] rfl rfl (yJ HT_.out (by kernel_rfl)) (fun _ _ _ h => h) (Or.inl ⟨by rfl, ?_⟩) ?_ ?_
 rotate_left
 ·intro w'
  go_simp
  with_reducible rfl
 rotate_left
 ·simp only [Act.put, List.setIfInBounds_toArray, List.set_cons_zero, List.set_cons_succ, zU, zV]
  rfl
 refine yB (i := 20) (N := some 94) (v := ?_) (a' := ?_) #[true, true, true, true, true, true, true, true, true, true, true, true, true, true, true, true, true, true, true, false, true, false, false, false, false, false, false, false, false, false, false, false, false] rfl rfl (yJ HT_.out (by kernel_rfl)) (fun _ _ _ h => h) (Or.inl ⟨by rfl, ?_⟩) ?_ ?_
 rotate_left
 ·intro w'
  go_simp
  with_reducible rfl
 rotate_left
 ·simp only [Act.put, List.setIfInBounds_toArray, List.set_cons_zero, List.set_cons_succ, zU, zV]
  rfl
 refine x9 (i := 19) (N := some 93) (v := ?_) (a' := ?_) #[true, true, true, true, true, true, true, true, true, true, true, true, true, true, true, true, true, true, true, true, true, false, false, false, false, false, false, false, false, false, false, false, false] rfl rfl (jB HT_.out HW_.out (by kernel_rfl)) (fun _ _ _ h => h) (Or.inl ⟨by rfl, ?_⟩) hHeld ?_ ?_
 rotate_left
 ·rintro w' ⟨s0, s1, s2, s3, s4, s5, s6, s7⟩
  go_simp
  with_reducible rfl
 rotate_left
 ·simp only [Act.put, List.setIfInBounds_toArray, List.set_cons_zero, List.set_cons_succ, zU, zV]
  rfl
 refine x9 (i := 22) (N := some 96) (v := ?_) (a' := ?_) #[true, true, true, true, true, true, true, true, true, true, true, true, true, true, true, true, true, true, true, true, true, false, true, false, false, false, false, false, false, false, false, false, false] rfl rfl (jB HT_.out HW_.out (by kernel_rfl)) (fun _ _ _ h => h) (Or.inl ⟨by rfl, ?_⟩) hHeld ?_ ?_
 rotate_left
 ·rintro w' ⟨s0, s1, s2, s3, s4, s5, s6, s7⟩
  go_simp
  with_reducible rfl
 rotate_left
 ·simp only [Act.put, List.setIfInBounds_toArray, List.set_cons_zero, List.set_cons_succ, zU, zV]
  rfl
 refine one_ (i := 21) (N := some 95) #[true, true, true, true, true, true, true, true, true, true, true, true, true, true, true, true, true, true, true, true, true, true, true, false, false, false, false, false, false, false, false, false, false] rfl rfl (qW HT_.out (by kernel_rfl)) (by decide) (fun K hK => ?_)
 refine qF Tryd.func31 (by kernel_rfl) rfl #[.agg #[.int .i64 t441, .slice Ao35 t442.length co35], .int .u64 a2] (by rfl) rfl rfl (by (try simp only [List.map_toArray, List.map_cons, List.map_nil]); first | done | rfl | (simp only [List.length_drop, List.length_take]; rfl)) ?_
 with_reducible refine (turnspitlaw09_turned.calls k t441 _ _ t442 a2 t473 t474 _ ?side1 ?side2 (by first | exact hT | ((repeat (first | exact hT | apply Tm.Emp.drewN | apply Tm.Emp.drew)); done) | exact Tm.Emp.below hT (by repeat (first | (with_reducible first | exact HB.out | apply zH | apply zI | apply zJ | refine zB ?_ (zA.out (by assumption))) | exact HB.out))) A16.out).mono ?_
 (case side1 => repeat (first | exact (Kd.yN HO444.out).2.2 | (with_reducible refine Kd.qR ?_ _) | (with_reducible refine Kd.qM ?_ _) | (with_reducible refine Kd.jH ?_)))
 (case side2 => exact (Kd.yN HO444.out).2.1)
 rintro e w70 ⟨v475, rfl, ho0, hb⟩
 refine ⟨_, rfl, ?_⟩
 have n0_ := zA.mk (Kd.yD (by (with_reducible repeat (first | apply Kd.zO | apply Kd.zM | apply Kd.zS)); exact HO438.out) (Kd.yQ ho0) hb)
 have n1_ := zA.mk (Kd.yD (by (with_reducible repeat (first | apply Kd.zO | apply Kd.zM | apply Kd.zS)); exact HO444.out) (Kd.yQ ho0) hb)
 have n2_ := zA.mk (Kd.yD (by (with_reducible repeat (first | apply Kd.zO | apply Kd.zM | apply Kd.zS)); exact HO450.out) (Kd.yQ ho0) hb)
 have n3_ := zA.mk (Kd.yD (by (with_reducible repeat (first | apply Kd.zO | apply Kd.zM | apply Kd.zS)); exact HO454.out) (Kd.yQ ho0) hb)
 have n4_ := zA.mk (Kd.yD (by (with_reducible repeat (first | apply Kd.zO | apply Kd.zM | apply Kd.zS)); exact HO460.out) (Kd.yQ ho0) hb)
 have n5_ := zA.mk (Kd.yD (by (with_reducible repeat (first | apply Kd.zO | apply Kd.zM | apply Kd.zS)); exact HO466.out) (Kd.yQ ho0) hb)
 have n6_ := zA.mk (Kd.yD (by (with_reducible repeat (first | apply Kd.zO | apply Kd.zM | apply Kd.zS)); exact HO470.out) (Kd.yQ ho0) hb)
 have n7_ := zA.mk (Kd.qB (Kd.yP (Kd.yP (Kd.yP (Kd.yP (Kd.yP (Kd.yP (Kd.yP ho0 (Kd.R_lt (by (with_reducible repeat (first | apply Kd.zO | apply Kd.zM | apply Kd.zS)); exact HO438.out))) (Kd.R_lt (by (with_reducible repeat (first | apply Kd.zO | apply Kd.zM | apply Kd.zS)); exact HO444.out))) (Kd.R_lt (by (with_reducible repeat (first | apply Kd.zO | apply Kd.zM | apply Kd.zS)); exact HO450.out))) (Kd.R_lt (by (with_reducible repeat (first | apply Kd.zO | apply Kd.zM | apply Kd.zS)); exact HO454.out))) (Kd.R_lt (by (with_reducible repeat (first | apply Kd.zO | apply Kd.zM | apply Kd.zS)); exact HO460.out))) (Kd.R_lt (by (with_reducible repeat (first | apply Kd.zO | apply Kd.zM | apply Kd.zS)); exact HO466.out))) (Kd.R_lt (by (with_reducible repeat (first | apply Kd.zO | apply Kd.zM | apply Kd.zS)); exact HO470.out))) (zW (by repeat (first | (with_reducible first | exact HB.out | apply zH | apply zI | apply zJ | refine zB ?_ GE439.out | refine zB ?_ GE440.out | refine zB ?_ GE446.out | refine zB ?_ GE456.out | refine zB ?_ GE462.out | refine zB ?_ GE472.out) | exact HB.out))))
 have n8_ := zA.mk (zK (g := gb439) (o := .cells #[.int .i64 t435, .slice Ao25 t436.length co25] 24 (0, 0)) (by (with_reducible repeat (first | apply zC | apply zG | apply zD)); exact BK439.out) hb)
 have n9_ := zA.mk (zK (g := gb440) (o := .cells #[.int .u64 (IntKind.u64.wrap (a0 + 7)), .int .i64 ((l1.length : Int) % 24)] 27 (0, 0)) (by (with_reducible repeat (first | apply zC | apply zG | apply zD)); exact BK440.out) hb)
 have n10_ := zA.mk (zK (g := gb446) (o := .cells #[.int .i64 t441, .slice Ao35 t442.length co35] 24 (0, 0)) (by (with_reducible repeat (first | apply zC | apply zG | apply zD)); exact BK446.out) hb)
 have n11_ := zA.mk (zK (g := gb456) (o := .cells #[.int .i64 t451, .slice Ao44 t452.length co44] 24 (0, 0)) (by (with_reducible repeat (first | apply zC | apply zG | apply zD)); exact BK456.out) hb)
 have n12_ := zA.mk (zK (g := gb462) (o := .cells #[.int .i64 t457, .slice Ao57 t458.length co57] 24 (0, 0)) (by (with_reducible repeat (first | apply zC | apply zG | apply zD)); exact BK462.out) hb)
 have n13_ := zA.mk (zK (g := gb472) (o := .cells #[.int .i64 t467, .slice Ao66 t468.length co66] 24 (0, 0)) (by (with_reducible repeat (first | apply zC | apply zG | apply zD)); exact BK472.out) hb)
 have n14_ := zA.mk (zT (by repeat (first | (with_reducible first | exact HB.out | apply zH | apply zI | apply zJ | refine zB ?_ GE439.out | refine zB ?_ GE440.out | refine zB ?_ GE446.out | refine zB ?_ GE456.out | refine zB ?_ GE462.out | refine zB ?_ GE472.out) | exact HB.out)) hb)
 clear HO438 HO444 HO450 HO454 HO460 HO466 HO470 BK439 BK440 BK446 BK456 BK462 BK472 HB; have HO438 := n0_; have HO444 := n1_; have HO450 := n2_; have HO454 := n3_; have HO460 := n4_; have HO466 := n5_; have HO470 := n6_; have HO476 := n7_; have BK439 := n8_; have BK440 := n9_; have BK446 := n10_; have BK456 := n11_; have BK462 := n12_; have BK472 := n13_; have HB := n14_; clear n0_ n1_ n2_ n3_ n4_ n5_ n6_ n7_ n8_ n9_ n10_ n11_ n12_ n13_ n14_
 (try clear hb)
 (try clear hb2)
 (try clear hk)
 (try clear hi)
 (try clear ho0)
 obtain ⟨Ao71, co71, eo71⟩ := Kd.xV HO476.out
 (first | subst eo71 | (injection eo71 with f1_ f2_ f3_; have f4_ := f1_.symm; have f5_ := f3_.symm; clear f1_ f2_ f3_; subst f4_; subst f5_))
 refine hK.out _ _ ⟨(zF BK446.out 0).trans rfl, (zF BK446.out 1).trans rfl, (zF BK456.out 0).trans rfl, (zF BK456.out 1).trans rfl, (zF BK462.out 0).trans rfl, (zF BK462.out 1).trans rfl, (zF BK472.out 0).trans rfl, (zF BK472.out 1).trans rfl⟩ (fun hHeld => ?_)
 clear hK K
 refine xA (a' := ?_) ?_ ?_
 rotate_left
 ·show Act.put _ (some 95) _ = _
  simp only [Act.put, List.setIfInBounds_toArray, List.set_cons_zero, List.set_cons_succ, zU, zV]
  rfl
 refine one_ (i := 23) (N := some 97) #[true, true, true, true, true, true, true, true, true, true, true, true, true, true, true, true, true, true, true, true, true, true, true, true, false, false, false, false, false, false, false, false, false] rfl rfl (qW HT_.out (by kernel_rfl)) (by decide) (fun K hK => ?_)
 refine qF Tryd.func15 (by kernel_rfl) rfl #[.agg #[.int .i64 t473, .slice Ao71 t474.length co71], .agg #[.int .i64 t451, .slice Ao44 t452.length co44]] (by rfl) rfl rfl (by (try simp only [List.map_toArray, List.map_cons, List.map_nil]); first | done | rfl | (simp only [List.length_drop, List.length_take]; rfl)) ?_
 with_reducible refine (turnspitref09_Same.calls k t473 _ _ t474 t451 _ _ t452 true _ ?side1 ?side2 ?side3 ?side4 (by first | exact hT | ((repeat (first | exact hT | apply Tm.Emp.drewN | apply Tm.Emp.drew)); done) | exact Tm.Emp.below hT (by repeat (first | (with_reducible first | exact HB.out | apply zH | apply zI | apply zJ | refine zB ?_ (zA.out (by assumption))) | exact HB.out))) A17.out).mono ?_
 (case side1 => repeat (first | exact (Kd.yN HO476.out).2.2 | (with_reducible refine Kd.qR ?_ _) | (with_reducible refine Kd.qM ?_ _) | (with_reducible refine Kd.jH ?_)))
 (case side2 => exact (Kd.yN HO476.out).2.1)
 (case side3 => repeat (first | exact (Kd.yN HO454.out).2.2 | (with_reducible refine Kd.qR ?_ _) | (with_reducible refine Kd.qM ?_ _) | (with_reducible refine Kd.jH ?_)))
 (case side4 => exact (Kd.yN HO454.out).2.1)
 rintro e w72 ⟨rfl, hb⟩
 refine ⟨_, rfl, ?_⟩
 have n0_ := zA.mk (Kd.yG (by (with_reducible repeat (first | apply Kd.zO | apply Kd.zM | apply Kd.zS)); exact HO438.out) hb)
 have n1_ := zA.mk (Kd.yG (by (with_reducible repeat (first | apply Kd.zO | apply Kd.zM | apply Kd.zS)); exact HO444.out) hb)
 have n2_ := zA.mk (Kd.yG (by (with_reducible repeat (first | apply Kd.zO | apply Kd.zM | apply Kd.zS)); exact HO450.out) hb)
 have n3_ := zA.mk (Kd.yG (by (with_reducible repeat (first | apply Kd.zO | apply Kd.zM | apply Kd.zS)); exact HO454.out) hb)
 have n4_ := zA.mk (Kd.yG (by (with_reducible repeat (first | apply Kd.zO | apply Kd.zM | apply Kd.zS)); exact HO460.out) hb)
 have n5_ := zA.mk (Kd.yG (by (with_reducible repeat (first | apply Kd.zO | apply Kd.zM | apply Kd.zS)); exact HO466.out) hb)
 have n6_ := zA.mk (Kd.yG (by (with_reducible repeat (first | apply Kd.zO | apply Kd.zM | apply Kd.zS)); exact HO470.out) hb)
 have n7_ := zA.mk (Kd.yG (by (with_reducible repeat (first | apply Kd.zO | apply Kd.zM | apply Kd.zS)); exact HO476.out) hb)
 have n8_ := zA.mk (zK (g := gb439) (o := .cells #[.int .i64 t435, .slice Ao25 t436.length co25] 24 (0, 0)) (by (with_reducible repeat (first | apply zC | apply zG | apply zD)); exact BK439.out) hb)
 have n9_ := zA.mk (zK (g := gb440) (o := .cells #[.int .u64 (IntKind.u64.wrap (a0 + 7)), .int .i64 ((l1.length : Int) % 24)] 27 (0, 0)) (by (with_reducible repeat (first | apply zC | apply zG | apply zD)); exact BK440.out) hb)
 have n10_ := zA.mk (zK (g := gb446) (o := .cells #[.int .i64 t441, .slice Ao35 t442.length co35] 24 (0, 0)) (by (with_reducible repeat (first | apply zC | apply zG | apply zD)); exact BK446.out) hb)
 have n11_ := zA.mk (zK (g := gb456) (o := .cells #[.int .i64 t451, .slice Ao44 t452.length co44] 24 (0, 0)) (by (with_reducible repeat (first | apply zC | apply zG | apply zD)); exact BK456.out) hb)
 have n12_ := zA.mk (zK (g := gb462) (o := .cells #[.int .i64 t457, .slice Ao57 t458.length co57] 24 (0, 0)) (by (with_reducible repeat (first | apply zC | apply zG | apply zD)); exact BK462.out) hb)
 have n13_ := zA.mk (zK (g := gb472) (o := .cells #[.int .i64 t467, .slice Ao66 t468.length co66] 24 (0, 0)) (by (with_reducible repeat (first | apply zC | apply zG | apply zD)); exact BK472.out) hb)
 have n14_ := zA.mk (zT (by repeat (first | (with_reducible first | exact HB.out | apply zH | apply zI | apply zJ | refine zB ?_ GE439.out | refine zB ?_ GE440.out | refine zB ?_ GE446.out | refine zB ?_ GE456.out | refine zB ?_ GE462.out | refine zB ?_ GE472.out) | exact HB.out)) hb)
 clear HO438 HO444 HO450 HO454 HO460 HO466 HO470 HO476 BK439 BK440 BK446 BK456 BK462 BK472 HB; have HO438 := n0_; have HO444 := n1_; have HO450 := n2_; have HO454 := n3_; have HO460 := n4_; have HO466 := n5_; have HO470 := n6_; have HO476 := n7_; have BK439 := n8_; have BK440 := n9_; have BK446 := n10_; have BK456 := n11_; have BK462 := n12_; have BK472 := n13_; have HB := n14_; clear n0_ n1_ n2_ n3_ n4_ n5_ n6_ n7_ n8_ n9_ n10_ n11_ n12_ n13_ n14_
 (try clear hb)
 (try clear hb2)
 (try clear hk)
 (try clear hi)
 refine hK.out _ _ ⟨(zF BK446.out 0).trans rfl, (zF BK446.out 1).trans rfl, (zF BK456.out 0).trans rfl, (zF BK456.out 1).trans rfl, (zF BK462.out 0).trans rfl, (zF BK462.out 1).trans rfl, (zF BK472.out 0).trans rfl, (zF BK472.out 1).trans rfl⟩ (fun hHeld => ?_)
 clear hK K
 refine xA (a' := ?_) ?_ ?_
 rotate_left
 ·show Act.put _ (some 97) _ = _
  simp only [Act.put, List.setIfInBounds_toArray, List.set_cons_zero, List.set_cons_succ, zU, zV]
  rfl
 refine yB (i := 24) (N := some 98) (v := ?_) (a' := ?_) #[true, true, true, true, true, true, true, true, true, true, true, true, true, true, true, true, true, true, true, true, true, true, true, true, true, false, false, false, false, false, false, false, false] rfl rfl (yJ HT_.out (by kernel_rfl)) (fun _ _ _ h => h) (Or.inl ⟨by rfl, ?_⟩) ?_ ?_
 rotate_left
 ·intro w'
  go_simp
  with_reducible rfl
 rotate_left
 ·simp only [Act.put, List.setIfInBounds_toArray, List.set_cons_zero, List.set_cons_succ, zU, zV]
  rfl
 refine yB (i := 25) (N := some 99) (v := ?_) (a' := ?_) #[true, true, true, true, true, true, true, true, true, true, true, true, true, true, true, true, true, true, true, true, true, true, true, true, true, true, false, false, false, false, false, false, false] rfl rfl (yJ HT_.out (by kernel_rfl)) (fun _ _ _ h => h) (Or.inl ⟨by rfl, ?_⟩) ?_ ?_
 rotate_left
 ·intro w'
  go_simp
  with_reducible rfl
 rotate_left
 ·simp only [Act.put, List.setIfInBounds_toArray, List.set_cons_zero, List.set_cons_succ, zU, zV]
  rfl
 refine yB (i := 27) (N := some 101) (v := ?_) (a' := ?_) #[true, true, true, true, true, true, true, true, true, true, true, true, true, true, true, true, true, true, true, true, true, true, true, true, true, true, false, true, false, false, false, false, false] rfl rfl (yJ HT_.out (by kernel_rfl)) (fun _ _ _ h => h) (Or.inl ⟨by rfl, ?_⟩) ?_ ?_
 rotate_left
 ·intro w'
  go_simp
  with_reducible rfl
 rotate_left
 ·simp only [Act.put, List.setIfInBounds_toArray, List.set_cons_zero, List.set_cons_succ, zU, zV]
  rfl
 refine x9 (i := 26) (N := some 100) (v := ?_) (a' := ?_) #[true, true, true, true, true, true, true, true, true, true, true, true, true, true, true, true, true, true, true, true, true, true, true, true, true, true, true, true, false, false, false, false, false] rfl rfl (jB HT_.out HW_.out (by kernel_rfl)) (fun _ _ _ h => h) (Or.inl ⟨by rfl, ?_⟩) hHeld ?_ ?_
 rotate_left
 ·rintro w' ⟨s0, s1, s2, s3, s4, s5, s6, s7⟩
  go_simp
  with_reducible rfl
 rotate_left
 ·simp only [Act.put, List.setIfInBounds_toArray, List.set_cons_zero, List.set_cons_succ, zU, zV]
  rfl
 refine x9 (i := 29) (N := some 103) (v := ?_) (a' := ?_) #[true, true, true, true, true, true, true, true, true, true, true, true, true, true, true, true, true, true, true, true, true, true, true, true, true, true, true, true, false, true, false, false, false] rfl rfl (jB HT_.out HW_.out (by kernel_rfl)) (fun _ _ _ h => h) (Or.inl ⟨by rfl, ?_⟩) hHeld ?_ ?_
 rotate_left
 ·rintro w' ⟨s0, s1, s2, s3, s4, s5, s6, s7⟩
  go_simp
  with_reducible rfl
 rotate_left
 ·simp only [Act.put, List.setIfInBounds_toArray, List.set_cons_zero, List.set_cons_succ, zU, zV]
  rfl
 refine one_ (i := 28) (N := some 102) #[true, true, true, true, true, true, true, true, true, true, true, true, true, true, true, true, true, true, true, true, true, true, true, true, true, true, true, true, true, true, false, false, false] rfl rfl (qW HT_.out (by kernel_rfl)) (by decide) (fun K hK => ?_)
 refine qF Tryd.func31 (by kernel_rfl) rfl #[.agg #[.int .i64 t457, .slice Ao57 t458.length co57], .int .u64 a2] (by rfl) rfl rfl (by (try simp only [List.map_toArray, List.map_cons, List.map_nil]); first | done | rfl | (simp only [List.length_drop, List.length_take]; rfl)) ?_
 with_reducible refine (turnspitlaw09_turned.calls k t457 _ _ t458 a2 t478 t479 _ ?side1 ?side2 (by first | exact hT | ((repeat (first | exact hT | apply Tm.Emp.drewN | apply Tm.Emp.drew)); done) | exact Tm.Emp.below hT (by repeat (first | (with_reducible first | exact HB.out | apply zH | apply zI | apply zJ | refine zB ?_ (zA.out (by assumption))) | exact HB.out))) A19.out).mono ?_
 (case side1 => repeat (first | exact (Kd.yN HO460.out).2.2 | (with_reducible refine Kd.qR ?_ _) | (with_reducible refine Kd.qM ?_ _) | (with_reducible refine Kd.jH ?_)))
 (case side2 => exact (Kd.yN HO460.out).2.1)
 rintro e w73 ⟨v480, rfl, ho0, hb⟩
 refine ⟨_, rfl, ?_⟩
 have n0_ := zA.mk (Kd.yD (by (with_reducible repeat (first | apply Kd.zO | apply Kd.zM | apply Kd.zS)); exact HO438.out) (Kd.yQ ho0) hb)
 have n1_ := zA.mk (Kd.yD (by (with_reducible repeat (first | apply Kd.zO | apply Kd.zM | apply Kd.zS)); exact HO444.out) (Kd.yQ ho0) hb)
 have n2_ := zA.mk (Kd.yD (by (with_reducible repeat (first | apply Kd.zO | apply Kd.zM | apply Kd.zS)); exact HO450.out) (Kd.yQ ho0) hb)
 have n3_ := zA.mk (Kd.yD (by (with_reducible repeat (first | apply Kd.zO | apply Kd.zM | apply Kd.zS)); exact HO454.out) (Kd.yQ ho0) hb)
 have n4_ := zA.mk (Kd.yD (by (with_reducible repeat (first | apply Kd.zO | apply Kd.zM | apply Kd.zS)); exact HO460.out) (Kd.yQ ho0) hb)
 have n5_ := zA.mk (Kd.yD (by (with_reducible repeat (first | apply Kd.zO | apply Kd.zM | apply Kd.zS)); exact HO466.out) (Kd.yQ ho0) hb)
 have n6_ := zA.mk (Kd.yD (by (with_reducible repeat (first | apply Kd.zO | apply Kd.zM | apply Kd.zS)); exact HO470.out) (Kd.yQ ho0) hb)
 have n7_ := zA.mk (Kd.yD (by (with_reducible repeat (first | apply Kd.zO | apply Kd.zM | apply Kd.zS)); exact HO476.out) (Kd.yQ ho0) hb)
 have n8_ := zA.mk (Kd.qB (Kd.yP (Kd.yP (Kd.yP (Kd.yP (Kd.yP (Kd.yP (Kd.yP (Kd.yP ho0 (Kd.R_lt (by (with_reducible repeat (first | apply Kd.zO | apply Kd.zM | apply Kd.zS)); exact HO438.out))) (Kd.R_lt (by (with_reducible repeat (first | apply Kd.zO | apply Kd.zM | apply Kd.zS)); exact HO444.out))) (Kd.R_lt (by (with_reducible repeat (first | apply Kd.zO | apply Kd.zM | apply Kd.zS)); exact HO450.out))) (Kd.R_lt (by (with_reducible repeat (first | apply Kd.zO | apply Kd.zM | apply Kd.zS)); exact HO454.out))) (Kd.R_lt (by (with_reducible repeat (first | apply Kd.zO | apply Kd.zM | apply Kd.zS)); exact HO460.out))) (Kd.R_lt (by (with_reducible repeat (first | apply Kd.zO | apply Kd.zM | apply Kd.zS)); exact HO466.out))) (Kd.R_lt (by (with_reducible repeat (first | apply Kd.zO | apply Kd.zM | apply Kd.zS)); exact HO470.out))) (Kd.R_lt (by (with_reducible repeat (first | apply Kd.zO | apply Kd.zM | apply Kd.zS)); exact HO476.out))) (zW (by repeat (first | (with_reducible first | exact HB.out | apply zH | apply zI | apply zJ | refine zB ?_ GE439.out | refine zB ?_ GE440.out | refine zB ?_ GE446.out | refine zB ?_ GE456.out | refine zB ?_ GE462.out | refine zB ?_ GE472.out) | exact HB.out))))
 have n9_ := zA.mk (zK (g := gb439) (o := .cells #[.int .i64 t435, .slice Ao25 t436.length co25] 24 (0, 0)) (by (with_reducible repeat (first | apply zC | apply zG | apply zD)); exact BK439.out) hb)
 have n10_ := zA.mk (zK (g := gb440) (o := .cells #[.int .u64 (IntKind.u64.wrap (a0 + 7)), .int .i64 ((l1.length : Int) % 24)] 27 (0, 0)) (by (with_reducible repeat (first | apply zC | apply zG | apply zD)); exact BK440.out) hb)
 have n11_ := zA.mk (zK (g := gb446) (o := .cells #[.int .i64 t441, .slice Ao35 t442.length co35] 24 (0, 0)) (by (with_reducible repeat (first | apply zC | apply zG | apply zD)); exact BK446.out) hb)
 have n12_ := zA.mk (zK (g := gb456) (o := .cells #[.int .i64 t451, .slice Ao44 t452.length co44] 24 (0, 0)) (by (with_reducible repeat (first | apply zC | apply zG | apply zD)); exact BK456.out) hb)
 have n13_ := zA.mk (zK (g := gb462) (o := .cells #[.int .i64 t457, .slice Ao57 t458.length co57] 24 (0, 0)) (by (with_reducible repeat (first | apply zC | apply zG | apply zD)); exact BK462.out) hb)
 have n14_ := zA.mk (zK (g := gb472) (o := .cells #[.int .i64 t467, .slice Ao66 t468.length co66] 24 (0, 0)) (by (with_reducible repeat (first | apply zC | apply zG | apply zD)); exact BK472.out) hb)
 have n15_ := zA.mk (zT (by repeat (first | (with_reducible first | exact HB.out | apply zH | apply zI | apply zJ | refine zB ?_ GE439.out | refine zB ?_ GE440.out | refine zB ?_ GE446.out | refine zB ?_ GE456.out | refine zB ?_ GE462.out | refine zB ?_ GE472.out) | exact HB.out)) hb)
 clear HO438 HO444 HO450 HO454 HO460 HO466 HO470 HO476 BK439 BK440 BK446 BK456 BK462 BK472 HB; have HO438 := n0_; have HO444 := n1_; have HO450 := n2_; have HO454 := n3_; have HO460 := n4_; have HO466 := n5_; have HO470 := n6_; have HO476 := n7_; have HO481 := n8_; have BK439 := n9_; have BK440 := n10_; have BK446 := n11_; have BK456 := n12_; have BK462 := n13_; have BK472 := n14_; have HB := n15_; clear n0_ n1_ n2_ n3_ n4_ n5_ n6_ n7_ n8_ n9_ n10_ n11_ n12_ n13_ n14_ n15_
 (try clear hb)
 (try clear hb2)
 (try clear hk)
 (try clear hi)
 (try clear ho0)
 obtain ⟨Ao74, co74, eo74⟩ := Kd.xV HO481.out
 (first | subst eo74 | (injection eo74 with f1_ f2_ f3_; have f4_ := f1_.symm; have f5_ := f3_.symm; clear f1_ f2_ f3_; subst f4_; subst f5_))
 refine hK.out _ _ ⟨(zF BK446.out 0).trans rfl, (zF BK446.out 1).trans rfl, (zF BK456.out 0).trans rfl, (zF BK456.out 1).trans rfl, (zF BK462.out 0).trans rfl, (zF BK462.out 1).trans rfl, (zF BK472.out 0).trans rfl, (zF BK472.out 1).trans rfl⟩ (fun hHeld => ?_)
 clear hK K
 refine xA (a' := ?_) ?_ ?_
 rotate_left
 ·show Act.put _ (some 102) _ = _
  simp only [Act.put, List.setIfInBounds_toArray, List.set_cons_zero, List.set_cons_succ, zU, zV]
  rfl
 refine one_ (i := 30) (N := some 104) #[true, true, true, true, true, true, true, true, true, true, true, true, true, true, true, true, true, true, true, true, true, true, true, true, true, true, true, true, true, true, true, false, false] rfl rfl (qW HT_.out (by kernel_rfl)) (by decide) (fun K hK => ?_)
 refine qF Tryd.func15 (by kernel_rfl) rfl #[.agg #[.int .i64 t478, .slice Ao74 t479.length co74], .agg #[.int .i64 t467, .slice Ao66 t468.length co66]] (by rfl) rfl rfl (by (try simp only [List.map_toArray, List.map_cons, List.map_nil]); first | done | rfl | (simp only [List.length_drop, List.length_take]; rfl)) ?_
 with_reducible refine (turnspitref09_Same.calls k t478 _ _ t479 t467 _ _ t468 t482 _ ?side1 ?side2 ?side3 ?side4 (by first | exact hT | ((repeat (first | exact hT | apply Tm.Emp.drewN | apply Tm.Emp.drew)); done) | exact Tm.Emp.below hT (by repeat (first | (with_reducible first | exact HB.out | apply zH | apply zI | apply zJ | refine zB ?_ (zA.out (by assumption))) | exact HB.out))) A20.out).mono ?_
 (case side1 => repeat (first | exact (Kd.yN HO481.out).2.2 | (with_reducible refine Kd.qR ?_ _) | (with_reducible refine Kd.qM ?_ _) | (with_reducible refine Kd.jH ?_)))
 (case side2 => exact (Kd.yN HO481.out).2.1)
 (case side3 => repeat (first | exact (Kd.yN HO470.out).2.2 | (with_reducible refine Kd.qR ?_ _) | (with_reducible refine Kd.qM ?_ _) | (with_reducible refine Kd.jH ?_)))
 (case side4 => exact (Kd.yN HO470.out).2.1)
 rintro e w75 ⟨rfl, hb⟩
 refine ⟨_, rfl, ?_⟩
 have n0_ := zA.mk (Kd.yG (by (with_reducible repeat (first | apply Kd.zO | apply Kd.zM | apply Kd.zS)); exact HO438.out) hb)
 have n1_ := zA.mk (Kd.yG (by (with_reducible repeat (first | apply Kd.zO | apply Kd.zM | apply Kd.zS)); exact HO444.out) hb)
 have n2_ := zA.mk (Kd.yG (by (with_reducible repeat (first | apply Kd.zO | apply Kd.zM | apply Kd.zS)); exact HO450.out) hb)
 have n3_ := zA.mk (Kd.yG (by (with_reducible repeat (first | apply Kd.zO | apply Kd.zM | apply Kd.zS)); exact HO454.out) hb)
 have n4_ := zA.mk (Kd.yG (by (with_reducible repeat (first | apply Kd.zO | apply Kd.zM | apply Kd.zS)); exact HO460.out) hb)
 have n5_ := zA.mk (Kd.yG (by (with_reducible repeat (first | apply Kd.zO | apply Kd.zM | apply Kd.zS)); exact HO466.out) hb)
 have n6_ := zA.mk (Kd.yG (by (with_reducible repeat (first | apply Kd.zO | apply Kd.zM | apply Kd.zS)); exact HO470.out) hb)
 have n7_ := zA.mk (Kd.yG (by (with_reducible repeat (first | apply Kd.zO | apply Kd.zM | apply Kd.zS)); exact HO476.out) hb)
 have n8_ := zA.mk (Kd.yG (by (with_reducible repeat (first | apply Kd.zO | apply Kd.zM | apply Kd.zS)); exact HO481.out) hb)
 have n9_ := zA.mk (zK (g := gb439) (o := .cells #[.int .i64 t435, .slice Ao25 t436.length co25] 24 (0, 0)) (by (with_reducible repeat (first | apply zC | apply zG | apply zD)); exact BK439.out) hb)
 have n10_ := zA.mk (zK (g := gb440) (o := .cells #[.int .u64 (IntKind.u64.wrap (a0 + 7)), .int .i64 ((l1.length : Int) % 24)] 27 (0, 0)) (by (with_reducible repeat (first | apply zC | apply zG | apply zD)); exact BK440.out) hb)
 have n11_ := zA.mk (zK (g := gb446) (o := .cells #[.int .i64 t441, .slice Ao35 t442.length co35] 24 (0, 0)) (by (with_reducible repeat (first | apply zC | apply zG | apply zD)); exact BK446.out) hb)
 have n12_ := zA.mk (zK (g := gb456) (o := .cells #[.int .i64 t451, .slice Ao44 t452.length co44] 24 (0, 0)) (by (with_reducible repeat (first | apply zC | apply zG | apply zD)); exact BK456.out) hb)
 have n13_ := zA.mk (zK (g := gb462) (o := .cells #[.int .i64 t457, .slice Ao57 t458.length co57] 24 (0, 0)) (by (with_reducible repeat (first | apply zC | apply zG | apply zD)); exact BK462.out) hb)
 have n14_ := zA.mk (zK (g := gb472) (o := .cells #[.int .i64 t467, .slice Ao66 t468.length co66] 24 (0, 0)) (by (with_reducible repeat (first | apply zC | apply zG | apply zD)); exact BK472.out) hb)
 have n15_ := zA.mk (zT (by repeat (first | (with_reducible first | exact HB.out | apply zH | apply zI | apply zJ | refine zB ?_ GE439.out | refine zB ?_ GE440.out | refine zB ?_ GE446.out | refine zB ?_ GE456.out | refine zB ?_ GE462.out | refine zB ?_ GE472.out) | exact HB.out)) hb)
 clear HO438 HO444 HO450 HO454 HO460 HO466 HO470 HO476 HO481 BK439 BK440 BK446 BK456 BK462 BK472 HB; have HO438 := n0_; have HO444 := n1_; have HO450 := n2_; have HO454 := n3_; have HO460 := n4_; have HO466 := n5_; have HO470 := n6_; have HO476 := n7_; have HO481 := n8_; have BK439 := n9_; have BK440 := n10_; have BK446 := n11_; have BK456 := n12_; have BK462 := n13_; have BK472 := n14_; have HB := n15_; clear n0_ n1_ n2_ n3_ n4_ n5_ n6_ n7_ n8_ n9_ n10_ n11_ n12_ n13_ n14_ n15_
 (try clear hb)
 (try clear hb2)
 (try clear hk)
 (try clear hi)
 refine hK.out _ _ ⟨(zF BK446.out 0).trans rfl, (zF BK446.out 1).trans rfl, (zF BK456.out 0).trans rfl, (zF BK456.out 1).trans rfl, (zF BK462.out 0).trans rfl, (zF BK462.out 1).trans rfl, (zF BK472.out 0).trans rfl, (zF BK472.out 1).trans rfl⟩ (fun hHeld => ?_)
 clear hK K
 refine xA (a' := ?_) ?_ ?_
 rotate_left
 ·show Act.put _ (some 104) _ = _
  simp only [Act.put, List.setIfInBounds_toArray, List.set_cons_zero, List.set_cons_succ, zU, zV]
  rfl
 refine yB (i := 31) (N := some 105) (v := ?_) (a' := ?_) #[true, true, true, true, true, true, true, true, true, true, true, true, true, true, true, true, true, true, true, true, true, true, true, true, true, true, true, true, true, true, true, true, false] rfl rfl (yJ HT_.out (by kernel_rfl)) (fun _ _ _ h => h) (Or.inl ⟨by rfl, ?_⟩) ?_ ?_
 rotate_left
 ·intro w'
  go_simp
  with_reducible rfl
 rotate_left
 ·simp only [Act.put, List.setIfInBounds_toArray, List.set_cons_zero, List.set_cons_succ, zU, zV]
  rfl
 refine yB (i := 32) (N := some 6) (v := ?_) (a' := ?_) #[true, true, true, true, true, true, true, true, true, true, true, true, true, true, true, true, true, true, true, true, true, true, true, true, true, true, true, true, true, true, true, true, true] rfl rfl (yJ HT_.out (by kernel_rfl)) (fun _ _ _ h => h) (Or.inl ⟨by rfl, ?_⟩) ?_ ?_
 rotate_left
 ·intro w'
  go_simp
  with_reducible rfl
 rotate_left
 ·simp only [Act.put, List.setIfInBounds_toArray, List.set_cons_zero, List.set_cons_succ, zU, zV]
  rfl
 refine vJ (zah HT_.out (by kernel_rfl)) ?_
 try go_wp2
 go_ret
 exact ⟨by first | rfl | (simp [xI, xH] <;> rfl) | (simp [*, xI, xH] <;> rfl), by repeat (first | (with_reducible first | exact HB.out | apply zH | apply zI | apply zJ | refine zB ?_ GE439.out | refine zB ?_ GE440.out | refine zB ?_ GE446.out | refine zB ?_ GE456.out | refine zB ?_ GE462.out | refine zB ?_ GE472.out) | exact HB.out)⟩
def turnspitlaw09_TreeTurns.Pure : Prop := ∀ (a0 : Int) (l1 : List Int) (a2 : Int), (Lit.int .u64 a0).wf = true → l1.length ≤ maxLen → l1.length * 2 ≤ 140737488351232 → (∀ x ∈ l1, (Lit.int .u16 x).wf = true) → (Lit.int .u64 a2).wf = true → ∃ k, turnspitlaw09_TreeTurns.f k a0 l1 a2 = some true
theorem turnspitlaw09_TreeTurns.walk (P : turnspitlaw09_TreeTurns.Pure) (a0 : Int) (a1 : Option Addr) (len1 cap1 : Nat) (z1 : List Int) (a2 : Int) (w : World) (hT : Tm.Emp w) (w0 : (Lit.int .u64 a0).wf = true) (w1 : (a1 = none ∧ len1 = 0 ∧ cap1 = 0 ∧ z1 = []) ∨ ∃ x, a1 = some x ∧ len1 ≤ cap1 ∧ cap1 ≤ maxLen ∧ z1.length = cap1 ∧ (∀ i, i < z1.length → w.cell? (x.add i) = some (.int .u16 (z1.getD i 0))) ∧ ∀ n ∈ z1, (Lit.int .u16 n).wf = true) (y1 : len1 * 2 ≤ 140737488351232) (w2 : (Lit.int .u64 a2).wf = true) :
  Calls Tryd.prog 9 #[.int .u64 a0, .slice a1 len1 cap1, .int .u64 a2] w fun e w' => e = .returned (.bool true) ∧ Below w.heap.size w w' := by
 obtain ⟨l1, rfl, hr1, hm1, hw1, hc1⟩ := jM.ofRowC w1
 obtain ⟨k, h⟩ := P a0 l1 a2 w0 hm1 y1 hw1 w2
 refine (turnspitlaw09_TreeTurns.calls k a0 _ _ l1 a2 true w (Kd.C_of_reads (d := (0 : Int)) (h1 := fun _ => rfl) hr1) hc1 hT h).mono ?_
 rintro e w' ⟨rfl, hd⟩
 exact ⟨rfl, hd⟩
end Go.Proofs.YtfapmcpmfeigbaaDoor.QTreeTurns
