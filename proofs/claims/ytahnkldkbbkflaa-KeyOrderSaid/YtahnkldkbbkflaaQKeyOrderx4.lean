/- Go functions of the program, each as a function of Lean with the proof that the Go text comes to its answers; no condition. Written by a program of this session. -/
import Derived.Test.YtahnkldkbbkflaaQKeyOrderx0
import Derived.Test.YtahnkldkbbkflaaQKeyOrderx1
import Derived.Test.YtahnkldkbbkflaaQKeyOrderx2
import Derived.Test.YtahnkldkbbkflaaQKeyOrderx3
namespace Go.Proofs.Ytahnkldkbbkflaa.QKeyOrder
open Go.RowKit Go.Proofs.YtahnkldkbbkflaaW.PrintWords Go.Proofs.YtahnkldkbbkflaaW.PrintLast Go.Proofs.YtahnkldkbbkflaaW.PrintMore
attribute [local go_sem] max2_int min2_int max_two min_two max_three min_three max_four min_four   -- for this text's walks alone
set_option linter.unusedVariables false
set_option linter.unusedSimpArgs false
set_option linter.unnecessarySimpa false

attribute [local go_sem high] eqA26
/-! ### turnspitlaw08_KeyOrder: function 5 -/
def turnspitlaw08_KeyOrder.j0 : Nat → Int → Bool → Bool → Bool → Int → Int → Int → Int → Int → Int → Option (Bool)
  | 0, _, _, _, _, _, _, _, _, _, _ => none
  | k + 1, x0, x7, x11, x61, x138000, x138001, x139000, x139001, x140000, x140001 => if x61 = true then (some false) else (if x7 = true then (if x11 = true then ((key_Less.f k x0 x139000 x139001 x140000 x140001).bind fun t146 => (if t146 = true then ((key_Less.f k x0 x138000 x138001 x140000 x140001).bind fun t147 => (some t147)) else (some true))) else (some true)) else (some false))
def turnspitlaw08_KeyOrder.f (k : Nat) (a0 : Int) (a1_0 : Int) (a1_1 : Int) (a1_2 : Int) (a2_0 : Int) (a2_1 : Int) (a2_2 : Int) : Option (Bool) := (turnspitlaw08_awake.f).bind fun t136 => (if t136 = true then ((key_Less.f k a0 a1_0 (wrap64 (a2_0)) a1_1 (wrap64 (a2_1))).bind fun t140 => ((key_Less.f k a0 a1_1 (wrap64 (a2_1)) a1_0 (wrap64 (a2_0))).bind fun t141 => (if t140 = true then (if t141 = true then (turnspitlaw08_KeyOrder.j0 k a0 t136 t140 true a1_0 (wrap64 (a2_0)) a1_1 (wrap64 (a2_1)) a1_2 (wrap64 (a2_2))) else (if (t140 == t141) = true then (if (!(a1_0 == a1_1) || (!((wrap64 (a2_0)) == (wrap64 (a2_1))))) = true then (turnspitlaw08_KeyOrder.j0 k a0 t136 t140 true a1_0 (wrap64 (a2_0)) a1_1 (wrap64 (a2_1)) a1_2 (wrap64 (a2_2))) else ((key_Less.f k a0 a1_0 (wrap64 (a2_0)) a1_0 (wrap64 (a2_0))).bind fun t142 => (turnspitlaw08_KeyOrder.j0 k a0 t136 t140 t142 a1_0 (wrap64 (a2_0)) a1_1 (wrap64 (a2_1)) a1_2 (wrap64 (a2_2))))) else ((key_Less.f k a0 a1_0 (wrap64 (a2_0)) a1_0 (wrap64 (a2_0))).bind fun t143 => (turnspitlaw08_KeyOrder.j0 k a0 t136 t140 t143 a1_0 (wrap64 (a2_0)) a1_1 (wrap64 (a2_1)) a1_2 (wrap64 (a2_2)))))) else (if (t140 == t141) = true then (if (!(a1_0 == a1_1) || (!((wrap64 (a2_0)) == (wrap64 (a2_1))))) = true then (turnspitlaw08_KeyOrder.j0 k a0 t136 t140 true a1_0 (wrap64 (a2_0)) a1_1 (wrap64 (a2_1)) a1_2 (wrap64 (a2_2))) else ((key_Less.f k a0 a1_0 (wrap64 (a2_0)) a1_0 (wrap64 (a2_0))).bind fun t144 => (turnspitlaw08_KeyOrder.j0 k a0 t136 t140 t144 a1_0 (wrap64 (a2_0)) a1_1 (wrap64 (a2_1)) a1_2 (wrap64 (a2_2))))) else ((key_Less.f k a0 a1_0 (wrap64 (a2_0)) a1_0 (wrap64 (a2_0))).bind fun t145 => (turnspitlaw08_KeyOrder.j0 k a0 t136 t140 t145 a1_0 (wrap64 (a2_0)) a1_1 (wrap64 (a2_1)) a1_2 (wrap64 (a2_2)))))))) else (some false))
theorem turnspitlaw08_KeyOrder.mono_l : ∀ k, (∀ y0 y1 y2 y3 y4 y5 y6 y7 y8 y9, LeO (turnspitlaw08_KeyOrder.j0 k y0 y1 y2 y3 y4 y5 y6 y7 y8 y9) (turnspitlaw08_KeyOrder.j0 (k + 1) y0 y1 y2 y3 y4 y5 y6 y7 y8 y9))
  | 0 => fun _ _ _ _ _ _ _ _ _ _ r h => by simp [turnspitlaw08_KeyOrder.j0] at h
  | k + 1 => by
    have ih0 := turnspitlaw08_KeyOrder.mono_l k
    · intro y0 y1 y2 y3 y4 y5 y6 y7 y8 y9
      unfold turnspitlaw08_KeyOrder.j0
      repeat' first
      | (with_reducible exact ih0 _ _ _ _ _ _ _ _ _ _)
      | (with_reducible exact key_Less.mono _ _ _ _ _ _)
      | (with_reducible exact LeO.refl _)
      | (with_reducible exact LeO.none _)
      | (with_reducible refine LeO.ite ?_ ?_)
      | (with_reducible refine LeO.bind ?_ (fun _ => ?_))
      | exact ih0 _ _ _ _ _ _ _ _ _ _
      | exact key_Less.mono _ _ _ _ _ _
      | exact LeO.none _
      | refine LeO.ite ?_ ?_
      | refine LeO.bind ?_ (fun _ => ?_)
theorem turnspitlaw08_KeyOrder.mono : ∀ a0 a1 a2 a3 a4 a5 a6 k, LeO (turnspitlaw08_KeyOrder.f k a0 a1 a2 a3 a4 a5 a6) (turnspitlaw08_KeyOrder.f (k + 1) a0 a1 a2 a3 a4 a5 a6) := by
  intro a0 a1 a2 a3 a4 a5 a6 k
  have ih0 := turnspitlaw08_KeyOrder.mono_l k
  unfold turnspitlaw08_KeyOrder.f
  repeat' first
      | (with_reducible exact ih0 _ _ _ _ _ _ _ _ _ _)
      | (with_reducible exact key_Less.mono _ _ _ _ _ _)
      | (with_reducible exact LeO.refl _)
      | (with_reducible exact LeO.none _)
      | (with_reducible refine LeO.ite ?_ ?_)
      | (with_reducible refine LeO.bind ?_ (fun _ => ?_))
      | exact ih0 _ _ _ _ _ _ _ _ _ _
      | exact key_Less.mono _ _ _ _ _ _
      | exact LeO.none _
      | refine LeO.ite ?_ ?_
      | refine LeO.bind ?_ (fun _ => ?_)
def turnspitlaw08_KeyOrder.T4 : Bool × List (List Nat × List Nat) := (true, [([], []), ([0], [0]), ([], []), ([2], [2]), ([3], [3]), ([1, 4], [1, 4]), ([], []), ([6], [6]), ([], []), ([8], [8]), ([9], [9]), ([7, 10], [7, 10]), ([], []), ([12], [12]), ([], []), ([14], [14]), ([15], [15]), ([13, 16], [13, 16]), ([], []), ([], []), ([], []), ([18, 5, 0, 1, 2, 3, 4, 5, 18, 19, 20], [5, 18]), ([19, 11, 21, 0, 1, 2, 3, 4, 5, 6, 7, 8, 9, 10, 11, 18, 19, 20, 21], [11, 19]), ([20, 17, 22, 0, 1, 2, 3, 4, 5, 6, 7, 8, 9, 10, 11, 12, 13, 14, 15, 16, 17, 18, 19, 20, 21, 22], [17, 20])])
def turnspitlaw08_KeyOrder.B4 : List Nat := [0, 1, 0, 4, 12, 31, 0, 64, 0, 256, 768, 1984, 0, 4096, 0, 16384, 49152, 126976, 0, 0, 0, 1835071, 3936255, 8388607]
theorem turnspitlaw08_KeyOrder.tab4 : rtab .any (opsOf Try.f5 4) = turnspitlaw08_KeyOrder.T4 := by kernel_rfl
theorem turnspitlaw08_KeyOrder.bits4 : waitsOk turnspitlaw08_KeyOrder.T4.2 turnspitlaw08_KeyOrder.B4 = true := by kernel_rfl
def turnspitlaw08_KeyOrder.T5 : Bool × List (List Nat × List Nat) := (true, [([], []), ([], []), ([], []), ([0, 1, 2], [0, 1, 2]), ([], []), ([], []), ([], []), ([4, 5, 6, 3], [4, 5, 6]), ([3, 7, 0, 1, 2, 3], [3]), ([7, 8, 0, 1, 2, 3, 4, 5, 6, 7, 8], [7])])
def turnspitlaw08_KeyOrder.B5 : List Nat := [0, 0, 0, 7, 0, 0, 0, 127, 255, 511]
theorem turnspitlaw08_KeyOrder.tab5 : rtab .any (opsOf Try.f5 5) = turnspitlaw08_KeyOrder.T5 := by kernel_rfl
theorem turnspitlaw08_KeyOrder.bits5 : waitsOk turnspitlaw08_KeyOrder.T5.2 turnspitlaw08_KeyOrder.B5 = true := by kernel_rfl
set_option maxHeartbeats 8000000 in
set_option maxRecDepth 100000 in
theorem turnspitlaw08_KeyOrder.calls (k : Nat) (a0 : Int) (a1_0 : Int) (a1_1 : Int) (a1_2 : Int) (a2_0 : Int) (a2_1 : Int) (a2_2 : Int) (r : Bool) (w : World) (h : turnspitlaw08_KeyOrder.f k a0 a1_0 a1_1 a1_2 a2_0 a2_1 a2_2 = some r) (hr_ : r = true := by rfl) :
    Calls Try.prog 5 #[.int .u64 a0, .agg #[.int .u64 a1_0, .int .u64 a1_1, .int .u64 a1_2], .agg #[.int .u8 a2_0, .int .u8 a2_1, .int .u8 a2_2]] w fun e w' => e = .returned (.bool r) ∧ Below w.heap.size w w' := by
  have hu38 := Try.underlying38
  have hu39 := Try.underlying39
  have hu26 := Try.underlying26
  have HB := Aside0.mk (Below.refl w.heap.size w)
  have H : ((turnspitlaw08_awake.f).bind fun t136 => (if t136 = true then ((key_Less.f k a0 a1_0 (wrap64 (a2_0)) a1_1 (wrap64 (a2_1))).bind fun t140 => ((key_Less.f k a0 a1_1 (wrap64 (a2_1)) a1_0 (wrap64 (a2_0))).bind fun t141 => (if t140 = true then (if t141 = true then (turnspitlaw08_KeyOrder.j0 k a0 t136 t140 true a1_0 (wrap64 (a2_0)) a1_1 (wrap64 (a2_1)) a1_2 (wrap64 (a2_2))) else (if (t140 == t141) = true then (if (!(a1_0 == a1_1) || (!((wrap64 (a2_0)) == (wrap64 (a2_1))))) = true then (turnspitlaw08_KeyOrder.j0 k a0 t136 t140 true a1_0 (wrap64 (a2_0)) a1_1 (wrap64 (a2_1)) a1_2 (wrap64 (a2_2))) else ((key_Less.f k a0 a1_0 (wrap64 (a2_0)) a1_0 (wrap64 (a2_0))).bind fun t142 => (turnspitlaw08_KeyOrder.j0 k a0 t136 t140 t142 a1_0 (wrap64 (a2_0)) a1_1 (wrap64 (a2_1)) a1_2 (wrap64 (a2_2))))) else ((key_Less.f k a0 a1_0 (wrap64 (a2_0)) a1_0 (wrap64 (a2_0))).bind fun t143 => (turnspitlaw08_KeyOrder.j0 k a0 t136 t140 t143 a1_0 (wrap64 (a2_0)) a1_1 (wrap64 (a2_1)) a1_2 (wrap64 (a2_2)))))) else (if (t140 == t141) = true then (if (!(a1_0 == a1_1) || (!((wrap64 (a2_0)) == (wrap64 (a2_1))))) = true then (turnspitlaw08_KeyOrder.j0 k a0 t136 t140 true a1_0 (wrap64 (a2_0)) a1_1 (wrap64 (a2_1)) a1_2 (wrap64 (a2_2))) else ((key_Less.f k a0 a1_0 (wrap64 (a2_0)) a1_0 (wrap64 (a2_0))).bind fun t144 => (turnspitlaw08_KeyOrder.j0 k a0 t136 t140 t144 a1_0 (wrap64 (a2_0)) a1_1 (wrap64 (a2_1)) a1_2 (wrap64 (a2_2))))) else ((key_Less.f k a0 a1_0 (wrap64 (a2_0)) a1_0 (wrap64 (a2_0))).bind fun t145 => (turnspitlaw08_KeyOrder.j0 k a0 t136 t140 t145 a1_0 (wrap64 (a2_0)) a1_1 (wrap64 (a2_1)) a1_2 (wrap64 (a2_2)))))))) else (some false))) = some r := h
  clear h
  replace H := Option.bind_eq_some_iff.mp H
  obtain ⟨t136, A40, H⟩ := H
  replace H : (if t136 = true then ((key_Less.f k a0 a1_0 (wrap64 (a2_0)) a1_1 (wrap64 (a2_1))).bind fun t140 => ((key_Less.f k a0 a1_1 (wrap64 (a2_1)) a1_0 (wrap64 (a2_0))).bind fun t141 => (if t140 = true then (if t141 = true then (turnspitlaw08_KeyOrder.j0 k a0 t136 t140 true a1_0 (wrap64 (a2_0)) a1_1 (wrap64 (a2_1)) a1_2 (wrap64 (a2_2))) else (if (t140 == t141) = true then (if (!(a1_0 == a1_1) || (!((wrap64 (a2_0)) == (wrap64 (a2_1))))) = true then (turnspitlaw08_KeyOrder.j0 k a0 t136 t140 true a1_0 (wrap64 (a2_0)) a1_1 (wrap64 (a2_1)) a1_2 (wrap64 (a2_2))) else ((key_Less.f k a0 a1_0 (wrap64 (a2_0)) a1_0 (wrap64 (a2_0))).bind fun t142 => (turnspitlaw08_KeyOrder.j0 k a0 t136 t140 t142 a1_0 (wrap64 (a2_0)) a1_1 (wrap64 (a2_1)) a1_2 (wrap64 (a2_2))))) else ((key_Less.f k a0 a1_0 (wrap64 (a2_0)) a1_0 (wrap64 (a2_0))).bind fun t143 => (turnspitlaw08_KeyOrder.j0 k a0 t136 t140 t143 a1_0 (wrap64 (a2_0)) a1_1 (wrap64 (a2_1)) a1_2 (wrap64 (a2_2)))))) else (if (t140 == t141) = true then (if (!(a1_0 == a1_1) || (!((wrap64 (a2_0)) == (wrap64 (a2_1))))) = true then (turnspitlaw08_KeyOrder.j0 k a0 t136 t140 true a1_0 (wrap64 (a2_0)) a1_1 (wrap64 (a2_1)) a1_2 (wrap64 (a2_2))) else ((key_Less.f k a0 a1_0 (wrap64 (a2_0)) a1_0 (wrap64 (a2_0))).bind fun t144 => (turnspitlaw08_KeyOrder.j0 k a0 t136 t140 t144 a1_0 (wrap64 (a2_0)) a1_1 (wrap64 (a2_1)) a1_2 (wrap64 (a2_2))))) else ((key_Less.f k a0 a1_0 (wrap64 (a2_0)) a1_0 (wrap64 (a2_0))).bind fun t145 => (turnspitlaw08_KeyOrder.j0 k a0 t136 t140 t145 a1_0 (wrap64 (a2_0)) a1_1 (wrap64 (a2_1)) a1_2 (wrap64 (a2_2)))))))) else (some false)) = some r := H
  have A4 := Aside0.mk A40
  clear A40
  by_cases c5 : t136 = true
  · subst c5
    have H1 : ((key_Less.f k a0 a1_0 (wrap64 (a2_0)) a1_1 (wrap64 (a2_1))).bind fun t140 => ((key_Less.f k a0 a1_1 (wrap64 (a2_1)) a1_0 (wrap64 (a2_0))).bind fun t141 => (if t140 = true then (if t141 = true then (turnspitlaw08_KeyOrder.j0 k a0 true t140 true a1_0 (wrap64 (a2_0)) a1_1 (wrap64 (a2_1)) a1_2 (wrap64 (a2_2))) else (if (t140 == t141) = true then (if (!(a1_0 == a1_1) || (!((wrap64 (a2_0)) == (wrap64 (a2_1))))) = true then (turnspitlaw08_KeyOrder.j0 k a0 true t140 true a1_0 (wrap64 (a2_0)) a1_1 (wrap64 (a2_1)) a1_2 (wrap64 (a2_2))) else ((key_Less.f k a0 a1_0 (wrap64 (a2_0)) a1_0 (wrap64 (a2_0))).bind fun t142 => (turnspitlaw08_KeyOrder.j0 k a0 true t140 t142 a1_0 (wrap64 (a2_0)) a1_1 (wrap64 (a2_1)) a1_2 (wrap64 (a2_2))))) else ((key_Less.f k a0 a1_0 (wrap64 (a2_0)) a1_0 (wrap64 (a2_0))).bind fun t143 => (turnspitlaw08_KeyOrder.j0 k a0 true t140 t143 a1_0 (wrap64 (a2_0)) a1_1 (wrap64 (a2_1)) a1_2 (wrap64 (a2_2)))))) else (if (t140 == t141) = true then (if (!(a1_0 == a1_1) || (!((wrap64 (a2_0)) == (wrap64 (a2_1))))) = true then (turnspitlaw08_KeyOrder.j0 k a0 true t140 true a1_0 (wrap64 (a2_0)) a1_1 (wrap64 (a2_1)) a1_2 (wrap64 (a2_2))) else ((key_Less.f k a0 a1_0 (wrap64 (a2_0)) a1_0 (wrap64 (a2_0))).bind fun t144 => (turnspitlaw08_KeyOrder.j0 k a0 true t140 t144 a1_0 (wrap64 (a2_0)) a1_1 (wrap64 (a2_1)) a1_2 (wrap64 (a2_2))))) else ((key_Less.f k a0 a1_0 (wrap64 (a2_0)) a1_0 (wrap64 (a2_0))).bind fun t145 => (turnspitlaw08_KeyOrder.j0 k a0 true t140 t145 a1_0 (wrap64 (a2_0)) a1_1 (wrap64 (a2_1)) a1_2 (wrap64 (a2_2)))))))) = some r := by first | (rw [if_pos rfl] at H; exact H) | (rw [if_pos trivial] at H; exact H)
    clear H
    have H := H1
    clear H1
    replace H := Option.bind_eq_some_iff.mp H
    obtain ⟨t140, A60, H⟩ := H
    replace H : ((key_Less.f k a0 a1_1 (wrap64 (a2_1)) a1_0 (wrap64 (a2_0))).bind fun t141 => (if t140 = true then (if t141 = true then (turnspitlaw08_KeyOrder.j0 k a0 true t140 true a1_0 (wrap64 (a2_0)) a1_1 (wrap64 (a2_1)) a1_2 (wrap64 (a2_2))) else (if (t140 == t141) = true then (if (!(a1_0 == a1_1) || (!((wrap64 (a2_0)) == (wrap64 (a2_1))))) = true then (turnspitlaw08_KeyOrder.j0 k a0 true t140 true a1_0 (wrap64 (a2_0)) a1_1 (wrap64 (a2_1)) a1_2 (wrap64 (a2_2))) else ((key_Less.f k a0 a1_0 (wrap64 (a2_0)) a1_0 (wrap64 (a2_0))).bind fun t142 => (turnspitlaw08_KeyOrder.j0 k a0 true t140 t142 a1_0 (wrap64 (a2_0)) a1_1 (wrap64 (a2_1)) a1_2 (wrap64 (a2_2))))) else ((key_Less.f k a0 a1_0 (wrap64 (a2_0)) a1_0 (wrap64 (a2_0))).bind fun t143 => (turnspitlaw08_KeyOrder.j0 k a0 true t140 t143 a1_0 (wrap64 (a2_0)) a1_1 (wrap64 (a2_1)) a1_2 (wrap64 (a2_2)))))) else (if (t140 == t141) = true then (if (!(a1_0 == a1_1) || (!((wrap64 (a2_0)) == (wrap64 (a2_1))))) = true then (turnspitlaw08_KeyOrder.j0 k a0 true t140 true a1_0 (wrap64 (a2_0)) a1_1 (wrap64 (a2_1)) a1_2 (wrap64 (a2_2))) else ((key_Less.f k a0 a1_0 (wrap64 (a2_0)) a1_0 (wrap64 (a2_0))).bind fun t144 => (turnspitlaw08_KeyOrder.j0 k a0 true t140 t144 a1_0 (wrap64 (a2_0)) a1_1 (wrap64 (a2_1)) a1_2 (wrap64 (a2_2))))) else ((key_Less.f k a0 a1_0 (wrap64 (a2_0)) a1_0 (wrap64 (a2_0))).bind fun t145 => (turnspitlaw08_KeyOrder.j0 k a0 true t140 t145 a1_0 (wrap64 (a2_0)) a1_1 (wrap64 (a2_1)) a1_2 (wrap64 (a2_2))))))) = some r := H
    have A6 := Aside0.mk A60
    clear A60
    replace H := Option.bind_eq_some_iff.mp H
    obtain ⟨t141, A70, H⟩ := H
    replace H : (if t140 = true then (if t141 = true then (turnspitlaw08_KeyOrder.j0 k a0 true t140 true a1_0 (wrap64 (a2_0)) a1_1 (wrap64 (a2_1)) a1_2 (wrap64 (a2_2))) else (if (t140 == t141) = true then (if (!(a1_0 == a1_1) || (!((wrap64 (a2_0)) == (wrap64 (a2_1))))) = true then (turnspitlaw08_KeyOrder.j0 k a0 true t140 true a1_0 (wrap64 (a2_0)) a1_1 (wrap64 (a2_1)) a1_2 (wrap64 (a2_2))) else ((key_Less.f k a0 a1_0 (wrap64 (a2_0)) a1_0 (wrap64 (a2_0))).bind fun t142 => (turnspitlaw08_KeyOrder.j0 k a0 true t140 t142 a1_0 (wrap64 (a2_0)) a1_1 (wrap64 (a2_1)) a1_2 (wrap64 (a2_2))))) else ((key_Less.f k a0 a1_0 (wrap64 (a2_0)) a1_0 (wrap64 (a2_0))).bind fun t143 => (turnspitlaw08_KeyOrder.j0 k a0 true t140 t143 a1_0 (wrap64 (a2_0)) a1_1 (wrap64 (a2_1)) a1_2 (wrap64 (a2_2)))))) else (if (t140 == t141) = true then (if (!(a1_0 == a1_1) || (!((wrap64 (a2_0)) == (wrap64 (a2_1))))) = true then (turnspitlaw08_KeyOrder.j0 k a0 true t140 true a1_0 (wrap64 (a2_0)) a1_1 (wrap64 (a2_1)) a1_2 (wrap64 (a2_2))) else ((key_Less.f k a0 a1_0 (wrap64 (a2_0)) a1_0 (wrap64 (a2_0))).bind fun t144 => (turnspitlaw08_KeyOrder.j0 k a0 true t140 t144 a1_0 (wrap64 (a2_0)) a1_1 (wrap64 (a2_1)) a1_2 (wrap64 (a2_2))))) else ((key_Less.f k a0 a1_0 (wrap64 (a2_0)) a1_0 (wrap64 (a2_0))).bind fun t145 => (turnspitlaw08_KeyOrder.j0 k a0 true t140 t145 a1_0 (wrap64 (a2_0)) a1_1 (wrap64 (a2_1)) a1_2 (wrap64 (a2_2)))))) = some r := H
    have A7 := Aside0.mk A70
    clear A70
    have HC8 := Aside0.mk H
    clear H
    go_enter Try.func5, Try.ntmps5
    try go_wp2_with (first | ((with_reducible refine gate_dst (N := 4) rfl ?_); refine box_event ?hg (N := 4) ?hd (cs := #[.int .u64 a1_0, .int .u64 a1_1, .int .u64 a1_2]) (t := 38) ?hr ?_; (case hd => rfl); (case hg => rfl); (case hr => first | (go_simp; done) | (go_simp; rfl)); intro gb134 hg w9 hbox hb; have n0_ := Aside0.mk (below_step (by repeat (first | (with_reducible first | exact HB.out | apply below_alloc | apply pw_below_drewN | apply below_drew1) | exact HB.out)) hb); have n1_ := Aside0.mk (hbox); have n2_ := Aside0.mk ((by rw [hg]; exact (below_size (by repeat (first | (with_reducible first | exact HB.out | apply below_alloc | apply pw_below_drewN | apply below_drew1) | exact HB.out))) : w.heap.size ≤ gb134)); have n3_ := Aside0.mk ((by rw [hg]; exact (below_size (by repeat (first | (with_reducible first | exact HB.out | apply below_alloc | apply pw_below_drewN | apply below_drew1) | exact HB.out))) : w.heap.size ≤ gb134)); clear HB; have HB := n0_; have BK134 := n1_; have GW134 := n2_; have GE134 := n3_; clear n0_ n1_ n2_ n3_; clear hb hbox hg) | ((with_reducible refine gate_dst (N := 5) rfl ?_); refine box_event ?hg (N := 5) ?hd (cs := #[.int .u8 a2_0, .int .u8 a2_1, .int .u8 a2_2]) (t := 39) ?hr ?_; (case hd => rfl); (case hg => rfl); (case hr => first | (go_simp; done) | (go_simp; rfl)); intro gb135 hg w10 hbox hb; have n0_ := Aside0.mk (blk_below (g := gb134) (o := .cells #[.int .u64 a1_0, .int .u64 a1_1, .int .u64 a1_2] 38 (0, 0)) (by (with_reducible repeat (first | refine blk_drewN ?_ _ | refine blk_drew ?_ | refine blk_alloc ?_ _)); exact BK134.out) hb); have n1_ := Aside0.mk (below_step (by repeat (first | (with_reducible first | exact HB.out | apply below_alloc | apply pw_below_drewN | apply below_drew1 | refine below_set ?_ GE134.out) | exact HB.out)) hb); have n2_ := Aside0.mk (hbox); have n3_ := Aside0.mk ((by rw [hg]; exact (below_size (by repeat (first | (with_reducible first | exact HB.out | apply below_alloc | apply pw_below_drewN | apply below_drew1 | refine below_set ?_ GE134.out) | exact HB.out))) : w.heap.size ≤ gb135)); have n4_ := Aside0.mk ((by rw [hg]; exact (below_size (by repeat (first | (with_reducible first | exact HB.out | apply below_alloc | apply pw_below_drewN | apply below_drew1 | refine below_set ?_ GE134.out) | exact HB.out))) : w.heap.size ≤ gb135)); have n5_ := Aside0.mk ((by rw [hg]; exact Nat.ne_of_lt (blk_lt (g := gb134) (o := .cells #[.int .u64 a1_0, .int .u64 a1_1, .int .u64 a1_2] 38 (0, 0)) (by (with_reducible repeat (first | refine blk_drewN ?_ _ | refine blk_drew ?_ | refine blk_alloc ?_ _)); exact BK134.out)) : gb134 ≠ gb135)); have n6_ := Aside0.mk ((by rw [hg]; exact Nat.ne_of_gt (blk_lt (g := gb134) (o := .cells #[.int .u64 a1_0, .int .u64 a1_1, .int .u64 a1_2] 38 (0, 0)) (by (with_reducible repeat (first | refine blk_drewN ?_ _ | refine blk_drew ?_ | refine blk_alloc ?_ _)); exact BK134.out)) : gb135 ≠ gb134)); clear BK134; clear HB; have BK134 := n0_; have HB := n1_; have BK135 := n2_; have GW135 := n3_; have GE135 := n4_; have NB134_135 := n5_; have NB135_134 := n6_; clear n0_ n1_ n2_ n3_ n4_ n5_ n6_; clear hb hbox hg) | ((with_reducible refine gate_callee (f := 9) rfl ?_); refine goesL_ (some 13) rfl rfl Try.func9 (by kernel_rfl) rfl #[] rfl (by (try simp only [List.map_toArray, List.map_cons, List.map_nil]); first | done | rfl | (simp only [List.length_drop, List.length_take]; rfl)) ?_; (with_reducible refine (turnspitlaw08_awake.calls  true _ A4.out).mono ?_); rintro e w11 ⟨rfl, hb⟩; refine ⟨_, rfl, ?_⟩; have n0_ := Aside0.mk (blk_below (g := gb134) (o := .cells #[.int .u64 a1_0, .int .u64 a1_1, .int .u64 a1_2] 38 (0, 0)) (by (with_reducible repeat (first | refine blk_drewN ?_ _ | refine blk_drew ?_ | refine blk_alloc ?_ _)); exact BK134.out) hb); have n1_ := Aside0.mk (blk_below (g := gb135) (o := .cells #[.int .u8 a2_0, .int .u8 a2_1, .int .u8 a2_2] 39 (0, 0)) (by (with_reducible repeat (first | refine blk_drewN ?_ _ | refine blk_drew ?_ | refine blk_alloc ?_ _)); exact BK135.out) hb); have n2_ := Aside0.mk (below_step (by repeat (first | (with_reducible first | exact HB.out | apply below_alloc | apply pw_below_drewN | apply below_drew1 | refine below_set ?_ GE134.out | refine below_set ?_ GE135.out) | exact HB.out)) hb); clear BK134; clear BK135; clear HB; have BK134 := n0_; have BK135 := n1_; have HB := n2_; clear n0_ n1_ n2_; (try clear hb); (try clear hb2); (try clear hk); (try clear hi)))
    have n0_ := Aside0.mk (blk_drew BK134.out)
    have n1_ := Aside0.mk (blk_drew BK135.out)
    have n2_ := Aside0.mk (below_drew1 HB.out)
    clear BK134
    clear BK135
    clear HB
    have BK134 := n0_
    have BK135 := n1_
    have HB := n2_
    clear n0_ n1_ n2_
    refine start_ (n := 24) (S := fun w' => w'.cell? ⟨gb134, 0, none⟩ = some (.int .u64 a1_0) ∧ w'.cell? ⟨gb134, 1, none⟩ = some (.int .u64 a1_1) ∧ w'.cell? ⟨gb134, 2, none⟩ = some (.int .u64 a1_2) ∧ w'.cell? ⟨gb135, 0, none⟩ = some (.int .u8 a2_0) ∧ w'.cell? ⟨gb135, 1, none⟩ = some (.int .u8 a2_1) ∧ w'.cell? ⟨gb135, 2, none⟩ = some (.int .u8 a2_2)) (ds := []) #[false, false, false, false, false, false, false, false, false, false, false, false, false, false, false, false, false, false, false, false, false, false, false, false] (by kernel_rfl) rfl rfl ⟨(blk_cell BK134.out 0).trans rfl, (blk_cell BK134.out 1).trans rfl, (blk_cell BK134.out 2).trans rfl, (blk_cell BK135.out 0).trans rfl, (blk_cell BK135.out 1).trans rfl, (blk_cell BK135.out 2).trans rfl⟩ (fun hHeld => ?_); refine with_tabW turnspitlaw08_KeyOrder.tab4 turnspitlaw08_KeyOrder.bits4 (fun HT_ HW_ => ?_)
    generalize w11.drew = w12 at BK134 BK135 HB hHeld ⊢
    refine pure_ (i := 0) (N := some 16) (v := ?_) (a' := ?_) #[true, false, false, false, false, false, false, false, false, false, false, false, false, false, false, false, false, false, false, false, false, false, false, false] rfl rfl (any_of HT_.out (by kernel_rfl)) (fun _ _ _ h => h) (Or.inl ⟨by rfl, ?_⟩) ?_ ?_
    rotate_left
    · intro w'
      go_simp
      with_reducible rfl
    rotate_left
    · simp only [Act.put, List.setIfInBounds_toArray, List.set_cons_zero, List.set_cons_succ, i64_w, i32_w]
      rfl
    refine pure_ (i := 2) (N := some 18) (v := ?_) (a' := ?_) #[true, false, true, false, false, false, false, false, false, false, false, false, false, false, false, false, false, false, false, false, false, false, false, false] rfl rfl (any_of HT_.out (by kernel_rfl)) (fun _ _ _ h => h) (Or.inl ⟨by rfl, ?_⟩) ?_ ?_
    rotate_left
    · intro w'
      go_simp
      with_reducible rfl
    rotate_left
    · simp only [Act.put, List.setIfInBounds_toArray, List.set_cons_zero, List.set_cons_succ, i64_w, i32_w]
      rfl
    refine pure_ (i := 6) (N := some 22) (v := ?_) (a' := ?_) #[true, false, true, false, false, false, true, false, false, false, false, false, false, false, false, false, false, false, false, false, false, false, false, false] rfl rfl (any_of HT_.out (by kernel_rfl)) (fun _ _ _ h => h) (Or.inl ⟨by rfl, ?_⟩) ?_ ?_
    rotate_left
    · intro w'
      go_simp
      with_reducible rfl
    rotate_left
    · simp only [Act.put, List.setIfInBounds_toArray, List.set_cons_zero, List.set_cons_succ, i64_w, i32_w]
      rfl
    refine pure_ (i := 8) (N := some 24) (v := ?_) (a' := ?_) #[true, false, true, false, false, false, true, false, true, false, false, false, false, false, false, false, false, false, false, false, false, false, false, false] rfl rfl (any_of HT_.out (by kernel_rfl)) (fun _ _ _ h => h) (Or.inl ⟨by rfl, ?_⟩) ?_ ?_
    rotate_left
    · intro w'
      go_simp
      with_reducible rfl
    rotate_left
    · simp only [Act.put, List.setIfInBounds_toArray, List.set_cons_zero, List.set_cons_succ, i64_w, i32_w]
      rfl
    refine pure_ (i := 12) (N := some 28) (v := ?_) (a' := ?_) #[true, false, true, false, false, false, true, false, true, false, false, false, true, false, false, false, false, false, false, false, false, false, false, false] rfl rfl (any_of HT_.out (by kernel_rfl)) (fun _ _ _ h => h) (Or.inl ⟨by rfl, ?_⟩) ?_ ?_
    rotate_left
    · intro w'
      go_simp
      with_reducible rfl
    rotate_left
    · simp only [Act.put, List.setIfInBounds_toArray, List.set_cons_zero, List.set_cons_succ, i64_w, i32_w]
      rfl
    refine pure_ (i := 14) (N := some 30) (v := ?_) (a' := ?_) #[true, false, true, false, false, false, true, false, true, false, false, false, true, false, true, false, false, false, false, false, false, false, false, false] rfl rfl (any_of HT_.out (by kernel_rfl)) (fun _ _ _ h => h) (Or.inl ⟨by rfl, ?_⟩) ?_ ?_
    rotate_left
    · intro w'
      go_simp
      with_reducible rfl
    rotate_left
    · simp only [Act.put, List.setIfInBounds_toArray, List.set_cons_zero, List.set_cons_succ, i64_w, i32_w]
      rfl
    refine take_ (i := 1) (N := some 17) (v := ?_) (a' := ?_) #[true, true, true, false, false, false, true, false, true, false, false, false, true, false, true, false, false, false, false, false, false, false, false, false] rfl rfl (take_ofW HT_.out HW_.out (by kernel_rfl)) (fun _ _ _ h => h) (Or.inl ⟨by rfl, ?_⟩) hHeld ?_ ?_
    rotate_left
    · rintro w' ⟨s0, s1, s2, s3, s4, s5⟩
      go_simp
      with_reducible rfl
    rotate_left
    · simp only [Act.put, List.setIfInBounds_toArray, List.set_cons_zero, List.set_cons_succ, i64_w, i32_w]
      rfl
    refine take_ (i := 3) (N := some 19) (v := ?_) (a' := ?_) #[true, true, true, true, false, false, true, false, true, false, false, false, true, false, true, false, false, false, false, false, false, false, false, false] rfl rfl (take_ofW HT_.out HW_.out (by kernel_rfl)) (fun _ _ _ h => h) (Or.inl ⟨by rfl, ?_⟩) hHeld ?_ ?_
    rotate_left
    · rintro w' ⟨s0, s1, s2, s3, s4, s5⟩
      go_simp
      with_reducible rfl
    rotate_left
    · simp only [Act.put, List.setIfInBounds_toArray, List.set_cons_zero, List.set_cons_succ, i64_w, i32_w]
      rfl
    refine pure_ (i := 4) (N := some 20) (v := ?_) (a' := ?_) #[true, true, true, true, true, false, true, false, true, false, false, false, true, false, true, false, false, false, false, false, false, false, false, false] rfl rfl (any_of HT_.out (by kernel_rfl)) (fun _ _ _ h => h) (Or.inl ⟨by rfl, ?_⟩) ?_ ?_
    rotate_left
    · intro w'
      go_simp
      with_reducible rfl
    rotate_left
    · simp only [Act.put, List.setIfInBounds_toArray, List.set_cons_zero, List.set_cons_succ, i64_w, i32_w]
      rfl
    refine pure_ (i := 5) (N := some 21) (v := ?_) (a' := ?_) #[true, true, true, true, true, true, true, false, true, false, false, false, true, false, true, false, false, false, false, false, false, false, false, false] rfl rfl (any_of HT_.out (by kernel_rfl)) (fun _ _ _ h => h) (Or.inl ⟨by rfl, ?_⟩) ?_ ?_
    rotate_left
    · intro w'
      go_simp
      with_reducible rfl
    rotate_left
    · simp only [Act.put, List.setIfInBounds_toArray, List.set_cons_zero, List.set_cons_succ, i64_w, i32_w]
      rfl
    refine take_ (i := 7) (N := some 23) (v := ?_) (a' := ?_) #[true, true, true, true, true, true, true, true, true, false, false, false, true, false, true, false, false, false, false, false, false, false, false, false] rfl rfl (take_ofW HT_.out HW_.out (by kernel_rfl)) (fun _ _ _ h => h) (Or.inl ⟨by rfl, ?_⟩) hHeld ?_ ?_
    rotate_left
    · rintro w' ⟨s0, s1, s2, s3, s4, s5⟩
      go_simp
      with_reducible rfl
    rotate_left
    · simp only [Act.put, List.setIfInBounds_toArray, List.set_cons_zero, List.set_cons_succ, i64_w, i32_w]
      rfl
    refine take_ (i := 9) (N := some 25) (v := ?_) (a' := ?_) #[true, true, true, true, true, true, true, true, true, true, false, false, true, false, true, false, false, false, false, false, false, false, false, false] rfl rfl (take_ofW HT_.out HW_.out (by kernel_rfl)) (fun _ _ _ h => h) (Or.inl ⟨by rfl, ?_⟩) hHeld ?_ ?_
    rotate_left
    · rintro w' ⟨s0, s1, s2, s3, s4, s5⟩
      go_simp
      with_reducible rfl
    rotate_left
    · simp only [Act.put, List.setIfInBounds_toArray, List.set_cons_zero, List.set_cons_succ, i64_w, i32_w]
      rfl
    refine pure_ (i := 10) (N := some 26) (v := ?_) (a' := ?_) #[true, true, true, true, true, true, true, true, true, true, true, false, true, false, true, false, false, false, false, false, false, false, false, false] rfl rfl (any_of HT_.out (by kernel_rfl)) (fun _ _ _ h => h) (Or.inl ⟨by rfl, ?_⟩) ?_ ?_
    rotate_left
    · intro w'
      go_simp
      with_reducible rfl
    rotate_left
    · simp only [Act.put, List.setIfInBounds_toArray, List.set_cons_zero, List.set_cons_succ, i64_w, i32_w]
      rfl
    refine pure_ (i := 11) (N := some 27) (v := ?_) (a' := ?_) #[true, true, true, true, true, true, true, true, true, true, true, true, true, false, true, false, false, false, false, false, false, false, false, false] rfl rfl (any_of HT_.out (by kernel_rfl)) (fun _ _ _ h => h) (Or.inl ⟨by rfl, ?_⟩) ?_ ?_
    rotate_left
    · intro w'
      go_simp
      with_reducible rfl
    rotate_left
    · simp only [Act.put, List.setIfInBounds_toArray, List.set_cons_zero, List.set_cons_succ, i64_w, i32_w]
      rfl
    refine take_ (i := 13) (N := some 29) (v := ?_) (a' := ?_) #[true, true, true, true, true, true, true, true, true, true, true, true, true, true, true, false, false, false, false, false, false, false, false, false] rfl rfl (take_ofW HT_.out HW_.out (by kernel_rfl)) (fun _ _ _ h => h) (Or.inl ⟨by rfl, ?_⟩) hHeld ?_ ?_
    rotate_left
    · rintro w' ⟨s0, s1, s2, s3, s4, s5⟩
      go_simp
      with_reducible rfl
    rotate_left
    · simp only [Act.put, List.setIfInBounds_toArray, List.set_cons_zero, List.set_cons_succ, i64_w, i32_w]
      rfl
    refine take_ (i := 15) (N := some 31) (v := ?_) (a' := ?_) #[true, true, true, true, true, true, true, true, true, true, true, true, true, true, true, true, false, false, false, false, false, false, false, false] rfl rfl (take_ofW HT_.out HW_.out (by kernel_rfl)) (fun _ _ _ h => h) (Or.inl ⟨by rfl, ?_⟩) hHeld ?_ ?_
    rotate_left
    · rintro w' ⟨s0, s1, s2, s3, s4, s5⟩
      go_simp
      with_reducible rfl
    rotate_left
    · simp only [Act.put, List.setIfInBounds_toArray, List.set_cons_zero, List.set_cons_succ, i64_w, i32_w]
      rfl
    refine pure_ (i := 16) (N := some 32) (v := ?_) (a' := ?_) #[true, true, true, true, true, true, true, true, true, true, true, true, true, true, true, true, true, false, false, false, false, false, false, false] rfl rfl (any_of HT_.out (by kernel_rfl)) (fun _ _ _ h => h) (Or.inl ⟨by rfl, ?_⟩) ?_ ?_
    rotate_left
    · intro w'
      go_simp
      with_reducible rfl
    rotate_left
    · simp only [Act.put, List.setIfInBounds_toArray, List.set_cons_zero, List.set_cons_succ, i64_w, i32_w]
      rfl
    refine pure_ (i := 17) (N := some 33) (v := ?_) (a' := ?_) #[true, true, true, true, true, true, true, true, true, true, true, true, true, true, true, true, true, true, false, false, false, false, false, false] rfl rfl (any_of HT_.out (by kernel_rfl)) (fun _ _ _ h => h) (Or.inl ⟨by rfl, ?_⟩) ?_ ?_
    rotate_left
    · intro w'
      go_simp
      with_reducible rfl
    rotate_left
    · simp only [Act.put, List.setIfInBounds_toArray, List.set_cons_zero, List.set_cons_succ, i64_w, i32_w]
      rfl
    refine join_ (σ := Nat × Nat × Nat) 3 #[true, true, true, true, true, true, true, true, true, true, true, true, true, true, true, true, true, true, true, true, true, false, false, false] (fun s_ => [(8, .pointer (some ⟨s_.1, 0, none⟩)), (9, .pointer (some ⟨s_.2.1, 0, none⟩)), (10, .pointer (some ⟨s_.2.2, 0, none⟩))]) (fun s_ w' => (w'.cell? ⟨gb134, 0, none⟩ = some (.int .u64 a1_0) ∧ w'.cell? ⟨gb134, 1, none⟩ = some (.int .u64 a1_1) ∧ w'.cell? ⟨gb134, 2, none⟩ = some (.int .u64 a1_2) ∧ w'.cell? ⟨gb135, 0, none⟩ = some (.int .u8 a2_0) ∧ w'.cell? ⟨gb135, 1, none⟩ = some (.int .u8 a2_1) ∧ w'.cell? ⟨gb135, 2, none⟩ = some (.int .u8 a2_2)) ∧ (w'.heap[gb134]? = some (.cells #[.int .u64 a1_0, .int .u64 a1_1, .int .u64 a1_2] 38 (0, 0))) ∧ (w'.heap[gb135]? = some (.cells #[.int .u8 a2_0, .int .u8 a2_1, .int .u8 a2_2] 39 (0, 0))) ∧ (w'.heap[s_.1]? = some (.cells #[.int .u64 0, .int .i64 0] 26 (0, 0))) ∧ (w'.heap[s_.2.1]? = some (.cells #[.int .u64 0, .int .i64 0] 26 (0, 0))) ∧ (w'.heap[s_.2.2]? = some (.cells #[.int .u64 0, .int .i64 0] 26 (0, 0))) ∧ (w.heap.size ≤ s_.1) ∧ (w.heap.size ≤ s_.1) ∧ (gb134 ≠ s_.1) ∧ (s_.1 ≠ gb134) ∧ (gb135 ≠ s_.1) ∧ (s_.1 ≠ gb135) ∧ (s_.2.1 ≠ s_.1) ∧ (s_.1 ≠ s_.2.1) ∧ (s_.2.2 ≠ s_.1) ∧ (s_.1 ≠ s_.2.2) ∧ (w.heap.size ≤ s_.2.1) ∧ (w.heap.size ≤ s_.2.1) ∧ (gb134 ≠ s_.2.1) ∧ (s_.2.1 ≠ gb134) ∧ (gb135 ≠ s_.2.1) ∧ (s_.2.1 ≠ gb135) ∧ (s_.2.2 ≠ s_.2.1) ∧ (s_.2.1 ≠ s_.2.2) ∧ (w.heap.size ≤ s_.2.2) ∧ (w.heap.size ≤ s_.2.2) ∧ (gb134 ≠ s_.2.2) ∧ (s_.2.2 ≠ gb134) ∧ (gb135 ≠ s_.2.2) ∧ (s_.2.2 ≠ gb135) ∧ (Below w.heap.size w w')) ?_ ?_
    rotate_left
    · intro hJ18_19_20
      refine join_ (σ := Nat × Nat) 4 #[true, true, true, true, true, true, true, true, true, true, true, true, true, true, true, true, true, true, true, true, false, false, false, false] (fun s_ => [(8, .pointer (some ⟨s_.1, 0, none⟩)), (9, .pointer (some ⟨s_.2, 0, none⟩))]) (fun s_ w' => (w'.cell? ⟨gb134, 0, none⟩ = some (.int .u64 a1_0) ∧ w'.cell? ⟨gb134, 1, none⟩ = some (.int .u64 a1_1) ∧ w'.cell? ⟨gb134, 2, none⟩ = some (.int .u64 a1_2) ∧ w'.cell? ⟨gb135, 0, none⟩ = some (.int .u8 a2_0) ∧ w'.cell? ⟨gb135, 1, none⟩ = some (.int .u8 a2_1) ∧ w'.cell? ⟨gb135, 2, none⟩ = some (.int .u8 a2_2)) ∧ (w'.heap[gb134]? = some (.cells #[.int .u64 a1_0, .int .u64 a1_1, .int .u64 a1_2] 38 (0, 0))) ∧ (w'.heap[gb135]? = some (.cells #[.int .u8 a2_0, .int .u8 a2_1, .int .u8 a2_2] 39 (0, 0))) ∧ (w'.heap[s_.1]? = some (.cells #[.int .u64 0, .int .i64 0] 26 (0, 0))) ∧ (w'.heap[s_.2]? = some (.cells #[.int .u64 0, .int .i64 0] 26 (0, 0))) ∧ (w.heap.size ≤ s_.1) ∧ (w.heap.size ≤ s_.1) ∧ (gb134 ≠ s_.1) ∧ (s_.1 ≠ gb134) ∧ (gb135 ≠ s_.1) ∧ (s_.1 ≠ gb135) ∧ (s_.2 ≠ s_.1) ∧ (s_.1 ≠ s_.2) ∧ (w.heap.size ≤ s_.2) ∧ (w.heap.size ≤ s_.2) ∧ (gb134 ≠ s_.2) ∧ (s_.2 ≠ gb134) ∧ (gb135 ≠ s_.2) ∧ (s_.2 ≠ gb135) ∧ (Below w.heap.size w w')) ?_ ?_
      rotate_left
      · intro hJ18_19
        refine join_ (σ := Nat × Nat) 4 #[true, true, true, true, true, true, true, true, true, true, true, true, true, true, true, true, true, true, true, false, true, false, false, false] (fun s_ => [(8, .pointer (some ⟨s_.1, 0, none⟩)), (10, .pointer (some ⟨s_.2, 0, none⟩))]) (fun s_ w' => (w'.cell? ⟨gb134, 0, none⟩ = some (.int .u64 a1_0) ∧ w'.cell? ⟨gb134, 1, none⟩ = some (.int .u64 a1_1) ∧ w'.cell? ⟨gb134, 2, none⟩ = some (.int .u64 a1_2) ∧ w'.cell? ⟨gb135, 0, none⟩ = some (.int .u8 a2_0) ∧ w'.cell? ⟨gb135, 1, none⟩ = some (.int .u8 a2_1) ∧ w'.cell? ⟨gb135, 2, none⟩ = some (.int .u8 a2_2)) ∧ (w'.heap[gb134]? = some (.cells #[.int .u64 a1_0, .int .u64 a1_1, .int .u64 a1_2] 38 (0, 0))) ∧ (w'.heap[gb135]? = some (.cells #[.int .u8 a2_0, .int .u8 a2_1, .int .u8 a2_2] 39 (0, 0))) ∧ (w'.heap[s_.1]? = some (.cells #[.int .u64 0, .int .i64 0] 26 (0, 0))) ∧ (w'.heap[s_.2]? = some (.cells #[.int .u64 0, .int .i64 0] 26 (0, 0))) ∧ (w.heap.size ≤ s_.1) ∧ (w.heap.size ≤ s_.1) ∧ (gb134 ≠ s_.1) ∧ (s_.1 ≠ gb134) ∧ (gb135 ≠ s_.1) ∧ (s_.1 ≠ gb135) ∧ (s_.2 ≠ s_.1) ∧ (s_.1 ≠ s_.2) ∧ (w.heap.size ≤ s_.2) ∧ (w.heap.size ≤ s_.2) ∧ (gb134 ≠ s_.2) ∧ (s_.2 ≠ gb134) ∧ (gb135 ≠ s_.2) ∧ (s_.2 ≠ gb135) ∧ (Below w.heap.size w w')) ?_ ?_
        rotate_left
        · intro hJ18_20
          refine join_ (σ := Nat × Nat) 4 #[true, true, true, true, true, true, true, true, true, true, true, true, true, true, true, true, true, true, false, true, true, false, false, false] (fun s_ => [(9, .pointer (some ⟨s_.1, 0, none⟩)), (10, .pointer (some ⟨s_.2, 0, none⟩))]) (fun s_ w' => (w'.cell? ⟨gb134, 0, none⟩ = some (.int .u64 a1_0) ∧ w'.cell? ⟨gb134, 1, none⟩ = some (.int .u64 a1_1) ∧ w'.cell? ⟨gb134, 2, none⟩ = some (.int .u64 a1_2) ∧ w'.cell? ⟨gb135, 0, none⟩ = some (.int .u8 a2_0) ∧ w'.cell? ⟨gb135, 1, none⟩ = some (.int .u8 a2_1) ∧ w'.cell? ⟨gb135, 2, none⟩ = some (.int .u8 a2_2)) ∧ (w'.heap[gb134]? = some (.cells #[.int .u64 a1_0, .int .u64 a1_1, .int .u64 a1_2] 38 (0, 0))) ∧ (w'.heap[gb135]? = some (.cells #[.int .u8 a2_0, .int .u8 a2_1, .int .u8 a2_2] 39 (0, 0))) ∧ (w'.heap[s_.1]? = some (.cells #[.int .u64 0, .int .i64 0] 26 (0, 0))) ∧ (w'.heap[s_.2]? = some (.cells #[.int .u64 0, .int .i64 0] 26 (0, 0))) ∧ (w.heap.size ≤ s_.1) ∧ (w.heap.size ≤ s_.1) ∧ (gb134 ≠ s_.1) ∧ (s_.1 ≠ gb134) ∧ (gb135 ≠ s_.1) ∧ (s_.1 ≠ gb135) ∧ (s_.2 ≠ s_.1) ∧ (s_.1 ≠ s_.2) ∧ (w.heap.size ≤ s_.2) ∧ (w.heap.size ≤ s_.2) ∧ (gb134 ≠ s_.2) ∧ (s_.2 ≠ gb134) ∧ (gb135 ≠ s_.2) ∧ (s_.2 ≠ gb135) ∧ (Below w.heap.size w w')) ?_ ?_
          rotate_left
          · intro hJ19_20
            refine join_ (σ := Nat) 5 #[true, true, true, true, true, true, true, true, true, true, true, true, true, true, true, true, true, true, true, false, false, false, false, false] (fun s_ => [(8, .pointer (some ⟨s_, 0, none⟩))]) (fun s_ w' => (w'.cell? ⟨gb134, 0, none⟩ = some (.int .u64 a1_0) ∧ w'.cell? ⟨gb134, 1, none⟩ = some (.int .u64 a1_1) ∧ w'.cell? ⟨gb134, 2, none⟩ = some (.int .u64 a1_2) ∧ w'.cell? ⟨gb135, 0, none⟩ = some (.int .u8 a2_0) ∧ w'.cell? ⟨gb135, 1, none⟩ = some (.int .u8 a2_1) ∧ w'.cell? ⟨gb135, 2, none⟩ = some (.int .u8 a2_2)) ∧ (w'.heap[gb134]? = some (.cells #[.int .u64 a1_0, .int .u64 a1_1, .int .u64 a1_2] 38 (0, 0))) ∧ (w'.heap[gb135]? = some (.cells #[.int .u8 a2_0, .int .u8 a2_1, .int .u8 a2_2] 39 (0, 0))) ∧ (w'.heap[s_]? = some (.cells #[.int .u64 0, .int .i64 0] 26 (0, 0))) ∧ (w.heap.size ≤ s_) ∧ (w.heap.size ≤ s_) ∧ (gb134 ≠ s_) ∧ (s_ ≠ gb134) ∧ (gb135 ≠ s_) ∧ (s_ ≠ gb135) ∧ (Below w.heap.size w w')) ?_ ?_
            rotate_left
            · intro hJ18
              refine join_ (σ := Nat) 5 #[true, true, true, true, true, true, true, true, true, true, true, true, true, true, true, true, true, true, false, true, false, false, false, false] (fun s_ => [(9, .pointer (some ⟨s_, 0, none⟩))]) (fun s_ w' => (w'.cell? ⟨gb134, 0, none⟩ = some (.int .u64 a1_0) ∧ w'.cell? ⟨gb134, 1, none⟩ = some (.int .u64 a1_1) ∧ w'.cell? ⟨gb134, 2, none⟩ = some (.int .u64 a1_2) ∧ w'.cell? ⟨gb135, 0, none⟩ = some (.int .u8 a2_0) ∧ w'.cell? ⟨gb135, 1, none⟩ = some (.int .u8 a2_1) ∧ w'.cell? ⟨gb135, 2, none⟩ = some (.int .u8 a2_2)) ∧ (w'.heap[gb134]? = some (.cells #[.int .u64 a1_0, .int .u64 a1_1, .int .u64 a1_2] 38 (0, 0))) ∧ (w'.heap[gb135]? = some (.cells #[.int .u8 a2_0, .int .u8 a2_1, .int .u8 a2_2] 39 (0, 0))) ∧ (w'.heap[s_]? = some (.cells #[.int .u64 0, .int .i64 0] 26 (0, 0))) ∧ (w.heap.size ≤ s_) ∧ (w.heap.size ≤ s_) ∧ (gb134 ≠ s_) ∧ (s_ ≠ gb134) ∧ (gb135 ≠ s_) ∧ (s_ ≠ gb135) ∧ (Below w.heap.size w w')) ?_ ?_
              rotate_left
              · intro hJ19
                refine join_ (σ := Nat) 5 #[true, true, true, true, true, true, true, true, true, true, true, true, true, true, true, true, true, true, false, false, true, false, false, false] (fun s_ => [(10, .pointer (some ⟨s_, 0, none⟩))]) (fun s_ w' => (w'.cell? ⟨gb134, 0, none⟩ = some (.int .u64 a1_0) ∧ w'.cell? ⟨gb134, 1, none⟩ = some (.int .u64 a1_1) ∧ w'.cell? ⟨gb134, 2, none⟩ = some (.int .u64 a1_2) ∧ w'.cell? ⟨gb135, 0, none⟩ = some (.int .u8 a2_0) ∧ w'.cell? ⟨gb135, 1, none⟩ = some (.int .u8 a2_1) ∧ w'.cell? ⟨gb135, 2, none⟩ = some (.int .u8 a2_2)) ∧ (w'.heap[gb134]? = some (.cells #[.int .u64 a1_0, .int .u64 a1_1, .int .u64 a1_2] 38 (0, 0))) ∧ (w'.heap[gb135]? = some (.cells #[.int .u8 a2_0, .int .u8 a2_1, .int .u8 a2_2] 39 (0, 0))) ∧ (w'.heap[s_]? = some (.cells #[.int .u64 0, .int .i64 0] 26 (0, 0))) ∧ (w.heap.size ≤ s_) ∧ (w.heap.size ≤ s_) ∧ (gb134 ≠ s_) ∧ (s_ ≠ gb134) ∧ (gb135 ≠ s_) ∧ (s_ ≠ gb135) ∧ (Below w.heap.size w w')) ?_ ?_
                rotate_left
                · intro hJ20
                  refine three_ (i := 18) (j := 19) (k := 20) (Ni := some 8) (Nj := some 9) (Nk := some 10) #[true, true, true, true, true, true, true, true, true, true, true, true, true, true, true, true, true, true, true, false, false, false, false, false] #[true, true, true, true, true, true, true, true, true, true, true, true, true, true, true, true, true, true, false, true, false, false, false, false] #[true, true, true, true, true, true, true, true, true, true, true, true, true, true, true, true, true, true, false, false, true, false, false, false] rfl rfl rfl rfl rfl rfl (three_of HT_.out (by kernel_rfl)) (by decide) (by decide) (by decide) (fun K hK => ?_) (fun K hK => ?_) (fun K hK => ?_)
                  · skip
                    refine box_step ?hg (N := 8) ?hd (cs := #[.int .u64 0, .int .i64 0]) (t := 26) ?hr ?_; (case hd => rfl); (case hg => rfl); (case hr => first | (go_simp; done) | (go_simp; rfl))
                    intro gb137 hg w13 hbox hb
                    have n0_ := Aside0.mk (blk_below (g := gb134) (o := .cells #[.int .u64 a1_0, .int .u64 a1_1, .int .u64 a1_2] 38 (0, 0)) (by (with_reducible repeat (first | refine blk_drewN ?_ _ | refine blk_drew ?_ | refine blk_alloc ?_ _)); exact BK134.out) hb)
                    have n1_ := Aside0.mk (blk_below (g := gb135) (o := .cells #[.int .u8 a2_0, .int .u8 a2_1, .int .u8 a2_2] 39 (0, 0)) (by (with_reducible repeat (first | refine blk_drewN ?_ _ | refine blk_drew ?_ | refine blk_alloc ?_ _)); exact BK135.out) hb)
                    have n2_ := Aside0.mk (below_step (by repeat (first | (with_reducible first | exact HB.out | apply below_alloc | apply pw_below_drewN | apply below_drew1 | refine below_set ?_ GE134.out | refine below_set ?_ GE135.out) | exact HB.out)) hb)
                    have n3_ := Aside0.mk (hbox)
                    have n4_ := Aside0.mk ((by rw [hg]; exact (below_size (by repeat (first | (with_reducible first | exact HB.out | apply below_alloc | apply pw_below_drewN | apply below_drew1 | refine below_set ?_ GE134.out | refine below_set ?_ GE135.out) | exact HB.out))) : w.heap.size ≤ gb137))
                    have n5_ := Aside0.mk ((by rw [hg]; exact (below_size (by repeat (first | (with_reducible first | exact HB.out | apply below_alloc | apply pw_below_drewN | apply below_drew1 | refine below_set ?_ GE134.out | refine below_set ?_ GE135.out) | exact HB.out))) : w.heap.size ≤ gb137))
                    have n6_ := Aside0.mk ((by rw [hg]; exact Nat.ne_of_lt (blk_lt (g := gb134) (o := .cells #[.int .u64 a1_0, .int .u64 a1_1, .int .u64 a1_2] 38 (0, 0)) (by (with_reducible repeat (first | refine blk_drewN ?_ _ | refine blk_drew ?_ | refine blk_alloc ?_ _)); exact BK134.out)) : gb134 ≠ gb137))
                    have n7_ := Aside0.mk ((by rw [hg]; exact Nat.ne_of_gt (blk_lt (g := gb134) (o := .cells #[.int .u64 a1_0, .int .u64 a1_1, .int .u64 a1_2] 38 (0, 0)) (by (with_reducible repeat (first | refine blk_drewN ?_ _ | refine blk_drew ?_ | refine blk_alloc ?_ _)); exact BK134.out)) : gb137 ≠ gb134))
                    have n8_ := Aside0.mk ((by rw [hg]; exact Nat.ne_of_lt (blk_lt (g := gb135) (o := .cells #[.int .u8 a2_0, .int .u8 a2_1, .int .u8 a2_2] 39 (0, 0)) (by (with_reducible repeat (first | refine blk_drewN ?_ _ | refine blk_drew ?_ | refine blk_alloc ?_ _)); exact BK135.out)) : gb135 ≠ gb137))
                    have n9_ := Aside0.mk ((by rw [hg]; exact Nat.ne_of_gt (blk_lt (g := gb135) (o := .cells #[.int .u8 a2_0, .int .u8 a2_1, .int .u8 a2_2] 39 (0, 0)) (by (with_reducible repeat (first | refine blk_drewN ?_ _ | refine blk_drew ?_ | refine blk_alloc ?_ _)); exact BK135.out)) : gb137 ≠ gb135))
                    clear BK134
                    clear BK135
                    clear HB
                    have BK134 := n0_
                    have BK135 := n1_
                    have HB := n2_
                    have BK137 := n3_
                    have GW137 := n4_
                    have GE137 := n5_
                    have NB134_137 := n6_
                    have NB137_134 := n7_
                    have NB135_137 := n8_
                    have NB137_135 := n9_
                    clear n0_ n1_ n2_ n3_ n4_ n5_ n6_ n7_ n8_ n9_
                    clear hb hbox hg
                    refine hK.out _ _ ⟨(blk_cell BK134.out 0).trans rfl, (blk_cell BK134.out 1).trans rfl, (blk_cell BK134.out 2).trans rfl, (blk_cell BK135.out 0).trans rfl, (blk_cell BK135.out 1).trans rfl, (blk_cell BK135.out 2).trans rfl⟩ (fun hHeld => ?_)
                    clear hK K
                    refine norm_ (a' := ?_) ?_ ?_
                    rotate_left
                    · show Act.put _ (some 8) _ = _
                      simp only [Act.put, List.setIfInBounds_toArray, List.set_cons_zero, List.set_cons_succ, i64_w, i32_w]
                      rfl
                    exact norm_ (by first | (simp only [putAll, Act.put, List.setIfInBounds_toArray, List.set_cons_zero, List.set_cons_succ]; done) | (simp only [putAll, Act.put, List.setIfInBounds_toArray, List.set_cons_zero, List.set_cons_succ]; rfl)) (hJ18 (gb137) _ ⟨hHeld, (by (with_reducible repeat (first | refine blk_drewN ?_ _ | refine blk_drew ?_ | refine blk_alloc ?_ _)); exact BK134.out), (by (with_reducible repeat (first | refine blk_drewN ?_ _ | refine blk_drew ?_ | refine blk_alloc ?_ _)); exact BK135.out), (by (with_reducible repeat (first | refine blk_drewN ?_ _ | refine blk_drew ?_ | refine blk_alloc ?_ _)); exact BK137.out), GW137.out, GE137.out, NB134_137.out, NB137_134.out, NB135_137.out, NB137_135.out, (by repeat (first | (with_reducible first | exact HB.out | apply below_alloc | apply pw_below_drewN | apply below_drew1 | refine below_set ?_ GE134.out | refine below_set ?_ GE135.out | refine below_set ?_ GE137.out) | exact HB.out))⟩)
                  · skip
                    refine box_step ?hg (N := 9) ?hd (cs := #[.int .u64 0, .int .i64 0]) (t := 26) ?hr ?_; (case hd => rfl); (case hg => rfl); (case hr => first | (go_simp; done) | (go_simp; rfl))
                    intro gb138 hg w13 hbox hb
                    have n0_ := Aside0.mk (blk_below (g := gb134) (o := .cells #[.int .u64 a1_0, .int .u64 a1_1, .int .u64 a1_2] 38 (0, 0)) (by (with_reducible repeat (first | refine blk_drewN ?_ _ | refine blk_drew ?_ | refine blk_alloc ?_ _)); exact BK134.out) hb)
                    have n1_ := Aside0.mk (blk_below (g := gb135) (o := .cells #[.int .u8 a2_0, .int .u8 a2_1, .int .u8 a2_2] 39 (0, 0)) (by (with_reducible repeat (first | refine blk_drewN ?_ _ | refine blk_drew ?_ | refine blk_alloc ?_ _)); exact BK135.out) hb)
                    have n2_ := Aside0.mk (below_step (by repeat (first | (with_reducible first | exact HB.out | apply below_alloc | apply pw_below_drewN | apply below_drew1 | refine below_set ?_ GE134.out | refine below_set ?_ GE135.out) | exact HB.out)) hb)
                    have n3_ := Aside0.mk (hbox)
                    have n4_ := Aside0.mk ((by rw [hg]; exact (below_size (by repeat (first | (with_reducible first | exact HB.out | apply below_alloc | apply pw_below_drewN | apply below_drew1 | refine below_set ?_ GE134.out | refine below_set ?_ GE135.out) | exact HB.out))) : w.heap.size ≤ gb138))
                    have n5_ := Aside0.mk ((by rw [hg]; exact (below_size (by repeat (first | (with_reducible first | exact HB.out | apply below_alloc | apply pw_below_drewN | apply below_drew1 | refine below_set ?_ GE134.out | refine below_set ?_ GE135.out) | exact HB.out))) : w.heap.size ≤ gb138))
                    have n6_ := Aside0.mk ((by rw [hg]; exact Nat.ne_of_lt (blk_lt (g := gb134) (o := .cells #[.int .u64 a1_0, .int .u64 a1_1, .int .u64 a1_2] 38 (0, 0)) (by (with_reducible repeat (first | refine blk_drewN ?_ _ | refine blk_drew ?_ | refine blk_alloc ?_ _)); exact BK134.out)) : gb134 ≠ gb138))
                    have n7_ := Aside0.mk ((by rw [hg]; exact Nat.ne_of_gt (blk_lt (g := gb134) (o := .cells #[.int .u64 a1_0, .int .u64 a1_1, .int .u64 a1_2] 38 (0, 0)) (by (with_reducible repeat (first | refine blk_drewN ?_ _ | refine blk_drew ?_ | refine blk_alloc ?_ _)); exact BK134.out)) : gb138 ≠ gb134))
                    have n8_ := Aside0.mk ((by rw [hg]; exact Nat.ne_of_lt (blk_lt (g := gb135) (o := .cells #[.int .u8 a2_0, .int .u8 a2_1, .int .u8 a2_2] 39 (0, 0)) (by (with_reducible repeat (first | refine blk_drewN ?_ _ | refine blk_drew ?_ | refine blk_alloc ?_ _)); exact BK135.out)) : gb135 ≠ gb138))
                    have n9_ := Aside0.mk ((by rw [hg]; exact Nat.ne_of_gt (blk_lt (g := gb135) (o := .cells #[.int .u8 a2_0, .int .u8 a2_1, .int .u8 a2_2] 39 (0, 0)) (by (with_reducible repeat (first | refine blk_drewN ?_ _ | refine blk_drew ?_ | refine blk_alloc ?_ _)); exact BK135.out)) : gb138 ≠ gb135))
                    clear BK134
                    clear BK135
                    clear HB
                    have BK134 := n0_
                    have BK135 := n1_
                    have HB := n2_
                    have BK138 := n3_
                    have GW138 := n4_
                    have GE138 := n5_
                    have NB134_138 := n6_
                    have NB138_134 := n7_
                    have NB135_138 := n8_
                    have NB138_135 := n9_
                    clear n0_ n1_ n2_ n3_ n4_ n5_ n6_ n7_ n8_ n9_
                    clear hb hbox hg
                    refine hK.out _ _ ⟨(blk_cell BK134.out 0).trans rfl, (blk_cell BK134.out 1).trans rfl, (blk_cell BK134.out 2).trans rfl, (blk_cell BK135.out 0).trans rfl, (blk_cell BK135.out 1).trans rfl, (blk_cell BK135.out 2).trans rfl⟩ (fun hHeld => ?_)
                    clear hK K
                    refine norm_ (a' := ?_) ?_ ?_
                    rotate_left
                    · show Act.put _ (some 9) _ = _
                      simp only [Act.put, List.setIfInBounds_toArray, List.set_cons_zero, List.set_cons_succ, i64_w, i32_w]
                      rfl
                    exact norm_ (by first | (simp only [putAll, Act.put, List.setIfInBounds_toArray, List.set_cons_zero, List.set_cons_succ]; done) | (simp only [putAll, Act.put, List.setIfInBounds_toArray, List.set_cons_zero, List.set_cons_succ]; rfl)) (hJ19 (gb138) _ ⟨hHeld, (by (with_reducible repeat (first | refine blk_drewN ?_ _ | refine blk_drew ?_ | refine blk_alloc ?_ _)); exact BK134.out), (by (with_reducible repeat (first | refine blk_drewN ?_ _ | refine blk_drew ?_ | refine blk_alloc ?_ _)); exact BK135.out), (by (with_reducible repeat (first | refine blk_drewN ?_ _ | refine blk_drew ?_ | refine blk_alloc ?_ _)); exact BK138.out), GW138.out, GE138.out, NB134_138.out, NB138_134.out, NB135_138.out, NB138_135.out, (by repeat (first | (with_reducible first | exact HB.out | apply below_alloc | apply pw_below_drewN | apply below_drew1 | refine below_set ?_ GE134.out | refine below_set ?_ GE135.out | refine below_set ?_ GE138.out) | exact HB.out))⟩)
                  · skip
                    refine box_step ?hg (N := 10) ?hd (cs := #[.int .u64 0, .int .i64 0]) (t := 26) ?hr ?_; (case hd => rfl); (case hg => rfl); (case hr => first | (go_simp; done) | (go_simp; rfl))
                    intro gb139 hg w13 hbox hb
                    have n0_ := Aside0.mk (blk_below (g := gb134) (o := .cells #[.int .u64 a1_0, .int .u64 a1_1, .int .u64 a1_2] 38 (0, 0)) (by (with_reducible repeat (first | refine blk_drewN ?_ _ | refine blk_drew ?_ | refine blk_alloc ?_ _)); exact BK134.out) hb)
                    have n1_ := Aside0.mk (blk_below (g := gb135) (o := .cells #[.int .u8 a2_0, .int .u8 a2_1, .int .u8 a2_2] 39 (0, 0)) (by (with_reducible repeat (first | refine blk_drewN ?_ _ | refine blk_drew ?_ | refine blk_alloc ?_ _)); exact BK135.out) hb)
                    have n2_ := Aside0.mk (below_step (by repeat (first | (with_reducible first | exact HB.out | apply below_alloc | apply pw_below_drewN | apply below_drew1 | refine below_set ?_ GE134.out | refine below_set ?_ GE135.out) | exact HB.out)) hb)
                    have n3_ := Aside0.mk (hbox)
                    have n4_ := Aside0.mk ((by rw [hg]; exact (below_size (by repeat (first | (with_reducible first | exact HB.out | apply below_alloc | apply pw_below_drewN | apply below_drew1 | refine below_set ?_ GE134.out | refine below_set ?_ GE135.out) | exact HB.out))) : w.heap.size ≤ gb139))
                    have n5_ := Aside0.mk ((by rw [hg]; exact (below_size (by repeat (first | (with_reducible first | exact HB.out | apply below_alloc | apply pw_below_drewN | apply below_drew1 | refine below_set ?_ GE134.out | refine below_set ?_ GE135.out) | exact HB.out))) : w.heap.size ≤ gb139))
                    have n6_ := Aside0.mk ((by rw [hg]; exact Nat.ne_of_lt (blk_lt (g := gb134) (o := .cells #[.int .u64 a1_0, .int .u64 a1_1, .int .u64 a1_2] 38 (0, 0)) (by (with_reducible repeat (first | refine blk_drewN ?_ _ | refine blk_drew ?_ | refine blk_alloc ?_ _)); exact BK134.out)) : gb134 ≠ gb139))
                    have n7_ := Aside0.mk ((by rw [hg]; exact Nat.ne_of_gt (blk_lt (g := gb134) (o := .cells #[.int .u64 a1_0, .int .u64 a1_1, .int .u64 a1_2] 38 (0, 0)) (by (with_reducible repeat (first | refine blk_drewN ?_ _ | refine blk_drew ?_ | refine blk_alloc ?_ _)); exact BK134.out)) : gb139 ≠ gb134))
                    have n8_ := Aside0.mk ((by rw [hg]; exact Nat.ne_of_lt (blk_lt (g := gb135) (o := .cells #[.int .u8 a2_0, .int .u8 a2_1, .int .u8 a2_2] 39 (0, 0)) (by (with_reducible repeat (first | refine blk_drewN ?_ _ | refine blk_drew ?_ | refine blk_alloc ?_ _)); exact BK135.out)) : gb135 ≠ gb139))
                    have n9_ := Aside0.mk ((by rw [hg]; exact Nat.ne_of_gt (blk_lt (g := gb135) (o := .cells #[.int .u8 a2_0, .int .u8 a2_1, .int .u8 a2_2] 39 (0, 0)) (by (with_reducible repeat (first | refine blk_drewN ?_ _ | refine blk_drew ?_ | refine blk_alloc ?_ _)); exact BK135.out)) : gb139 ≠ gb135))
                    clear BK134
                    clear BK135
                    clear HB
                    have BK134 := n0_
                    have BK135 := n1_
                    have HB := n2_
                    have BK139 := n3_
                    have GW139 := n4_
                    have GE139 := n5_
                    have NB134_139 := n6_
                    have NB139_134 := n7_
                    have NB135_139 := n8_
                    have NB139_135 := n9_
                    clear n0_ n1_ n2_ n3_ n4_ n5_ n6_ n7_ n8_ n9_
                    clear hb hbox hg
                    refine hK.out _ _ ⟨(blk_cell BK134.out 0).trans rfl, (blk_cell BK134.out 1).trans rfl, (blk_cell BK134.out 2).trans rfl, (blk_cell BK135.out 0).trans rfl, (blk_cell BK135.out 1).trans rfl, (blk_cell BK135.out 2).trans rfl⟩ (fun hHeld => ?_)
                    clear hK K
                    refine norm_ (a' := ?_) ?_ ?_
                    rotate_left
                    · show Act.put _ (some 10) _ = _
                      simp only [Act.put, List.setIfInBounds_toArray, List.set_cons_zero, List.set_cons_succ, i64_w, i32_w]
                      rfl
                    exact norm_ (by first | (simp only [putAll, Act.put, List.setIfInBounds_toArray, List.set_cons_zero, List.set_cons_succ]; done) | (simp only [putAll, Act.put, List.setIfInBounds_toArray, List.set_cons_zero, List.set_cons_succ]; rfl)) (hJ20 (gb139) _ ⟨hHeld, (by (with_reducible repeat (first | refine blk_drewN ?_ _ | refine blk_drew ?_ | refine blk_alloc ?_ _)); exact BK134.out), (by (with_reducible repeat (first | refine blk_drewN ?_ _ | refine blk_drew ?_ | refine blk_alloc ?_ _)); exact BK135.out), (by (with_reducible repeat (first | refine blk_drewN ?_ _ | refine blk_drew ?_ | refine blk_alloc ?_ _)); exact BK139.out), GW139.out, GE139.out, NB134_139.out, NB139_134.out, NB135_139.out, NB139_135.out, (by repeat (first | (with_reducible first | exact HB.out | apply below_alloc | apply pw_below_drewN | apply below_drew1 | refine below_set ?_ GE134.out | refine below_set ?_ GE135.out | refine below_set ?_ GE139.out) | exact HB.out))⟩)
                · skip
                  rintro gb139 w14 ⟨hS_, h0_, h1_, h2_, h3_, h4_, h5_, h6_, h7_, h8_, h9_⟩
                  have n0_ : Aside0 (w14.heap[gb134]? = some (.cells #[.int .u64 a1_0, .int .u64 a1_1, .int .u64 a1_2] 38 (0, 0))) := ⟨h0_⟩
                  have n1_ : Aside0 (w14.heap[gb135]? = some (.cells #[.int .u8 a2_0, .int .u8 a2_1, .int .u8 a2_2] 39 (0, 0))) := ⟨h1_⟩
                  have n2_ : Aside0 (w14.heap[gb139]? = some (.cells #[.int .u64 0, .int .i64 0] 26 (0, 0))) := ⟨h2_⟩
                  have n3_ : Aside0 (w.heap.size ≤ gb139) := ⟨h3_⟩
                  have n4_ : Aside0 (w.heap.size ≤ gb139) := ⟨h4_⟩
                  have n5_ : Aside0 (gb134 ≠ gb139) := ⟨h5_⟩
                  have n6_ : Aside0 (gb139 ≠ gb134) := ⟨h6_⟩
                  have n7_ : Aside0 (gb135 ≠ gb139) := ⟨h7_⟩
                  have n8_ : Aside0 (gb139 ≠ gb135) := ⟨h8_⟩
                  have n9_ : Aside0 (Below w.heap.size w w14) := ⟨h9_⟩
                  clear BK134
                  clear BK135
                  clear HB
                  clear h0_ h1_ h2_ h3_ h4_ h5_ h6_ h7_ h8_ h9_
                  have BK134 := n0_
                  have BK135 := n1_
                  have BK139 := n2_
                  have GW139 := n3_
                  have GE139 := n4_
                  have NB134_139 := n5_
                  have NB139_134 := n6_
                  have NB135_139 := n7_
                  have NB139_135 := n8_
                  have HB := n9_
                  clear n0_ n1_ n2_ n3_ n4_ n5_ n6_ n7_ n8_ n9_
                  have hHeld : w14.cell? ⟨gb134, 0, none⟩ = some (.int .u64 a1_0) ∧ w14.cell? ⟨gb134, 1, none⟩ = some (.int .u64 a1_1) ∧ w14.cell? ⟨gb134, 2, none⟩ = some (.int .u64 a1_2) ∧ w14.cell? ⟨gb135, 0, none⟩ = some (.int .u8 a2_0) ∧ w14.cell? ⟨gb135, 1, none⟩ = some (.int .u8 a2_1) ∧ w14.cell? ⟨gb135, 2, none⟩ = some (.int .u8 a2_2) := hS_
                  refine norm_ (a' := ?_) ?_ ?_
                  rotate_left
                  · simp only [putAll, Act.put, List.setIfInBounds_toArray, List.set_cons_zero, List.set_cons_succ]
                    rfl
                  refine two_ (i := 18) (j := 19) (Ni := some 8) (Nj := some 9) #[true, true, true, true, true, true, true, true, true, true, true, true, true, true, true, true, true, true, true, false, true, false, false, false] #[true, true, true, true, true, true, true, true, true, true, true, true, true, true, true, true, true, true, false, true, true, false, false, false] rfl rfl rfl rfl (two_of HT_.out (by kernel_rfl)) (by decide) (by decide) (fun K hK => ?_) (fun K hK => ?_)
                  · skip
                    refine box_step ?hg (N := 8) ?hd (cs := #[.int .u64 0, .int .i64 0]) (t := 26) ?hr ?_; (case hd => rfl); (case hg => rfl); (case hr => first | (go_simp; done) | (go_simp; rfl))
                    intro gb137 hg w15 hbox hb
                    have n0_ := Aside0.mk (blk_below (g := gb134) (o := .cells #[.int .u64 a1_0, .int .u64 a1_1, .int .u64 a1_2] 38 (0, 0)) (by (with_reducible repeat (first | refine blk_drewN ?_ _ | refine blk_drew ?_ | refine blk_alloc ?_ _)); exact BK134.out) hb)
                    have n1_ := Aside0.mk (blk_below (g := gb135) (o := .cells #[.int .u8 a2_0, .int .u8 a2_1, .int .u8 a2_2] 39 (0, 0)) (by (with_reducible repeat (first | refine blk_drewN ?_ _ | refine blk_drew ?_ | refine blk_alloc ?_ _)); exact BK135.out) hb)
                    have n2_ := Aside0.mk (blk_below (g := gb139) (o := .cells #[.int .u64 0, .int .i64 0] 26 (0, 0)) (by (with_reducible repeat (first | refine blk_drewN ?_ _ | refine blk_drew ?_ | refine blk_alloc ?_ _)); exact BK139.out) hb)
                    have n3_ := Aside0.mk (below_step (by repeat (first | (with_reducible first | exact HB.out | apply below_alloc | apply pw_below_drewN | apply below_drew1 | refine below_set ?_ GE134.out | refine below_set ?_ GE135.out | refine below_set ?_ GE139.out) | exact HB.out)) hb)
                    have n4_ := Aside0.mk (hbox)
                    have n5_ := Aside0.mk ((by rw [hg]; exact (below_size (by repeat (first | (with_reducible first | exact HB.out | apply below_alloc | apply pw_below_drewN | apply below_drew1 | refine below_set ?_ GE134.out | refine below_set ?_ GE135.out | refine below_set ?_ GE139.out) | exact HB.out))) : w.heap.size ≤ gb137))
                    have n6_ := Aside0.mk ((by rw [hg]; exact (below_size (by repeat (first | (with_reducible first | exact HB.out | apply below_alloc | apply pw_below_drewN | apply below_drew1 | refine below_set ?_ GE134.out | refine below_set ?_ GE135.out | refine below_set ?_ GE139.out) | exact HB.out))) : w.heap.size ≤ gb137))
                    have n7_ := Aside0.mk ((by rw [hg]; exact Nat.ne_of_lt (blk_lt (g := gb134) (o := .cells #[.int .u64 a1_0, .int .u64 a1_1, .int .u64 a1_2] 38 (0, 0)) (by (with_reducible repeat (first | refine blk_drewN ?_ _ | refine blk_drew ?_ | refine blk_alloc ?_ _)); exact BK134.out)) : gb134 ≠ gb137))
                    have n8_ := Aside0.mk ((by rw [hg]; exact Nat.ne_of_gt (blk_lt (g := gb134) (o := .cells #[.int .u64 a1_0, .int .u64 a1_1, .int .u64 a1_2] 38 (0, 0)) (by (with_reducible repeat (first | refine blk_drewN ?_ _ | refine blk_drew ?_ | refine blk_alloc ?_ _)); exact BK134.out)) : gb137 ≠ gb134))
                    have n9_ := Aside0.mk ((by rw [hg]; exact Nat.ne_of_lt (blk_lt (g := gb135) (o := .cells #[.int .u8 a2_0, .int .u8 a2_1, .int .u8 a2_2] 39 (0, 0)) (by (with_reducible repeat (first | refine blk_drewN ?_ _ | refine blk_drew ?_ | refine blk_alloc ?_ _)); exact BK135.out)) : gb135 ≠ gb137))
                    have n10_ := Aside0.mk ((by rw [hg]; exact Nat.ne_of_gt (blk_lt (g := gb135) (o := .cells #[.int .u8 a2_0, .int .u8 a2_1, .int .u8 a2_2] 39 (0, 0)) (by (with_reducible repeat (first | refine blk_drewN ?_ _ | refine blk_drew ?_ | refine blk_alloc ?_ _)); exact BK135.out)) : gb137 ≠ gb135))
                    have n11_ := Aside0.mk ((by rw [hg]; exact Nat.ne_of_lt (blk_lt (g := gb139) (o := .cells #[.int .u64 0, .int .i64 0] 26 (0, 0)) (by (with_reducible repeat (first | refine blk_drewN ?_ _ | refine blk_drew ?_ | refine blk_alloc ?_ _)); exact BK139.out)) : gb139 ≠ gb137))
                    have n12_ := Aside0.mk ((by rw [hg]; exact Nat.ne_of_gt (blk_lt (g := gb139) (o := .cells #[.int .u64 0, .int .i64 0] 26 (0, 0)) (by (with_reducible repeat (first | refine blk_drewN ?_ _ | refine blk_drew ?_ | refine blk_alloc ?_ _)); exact BK139.out)) : gb137 ≠ gb139))
                    clear BK134
                    clear BK135
                    clear BK139
                    clear HB
                    have BK134 := n0_
                    have BK135 := n1_
                    have BK139 := n2_
                    have HB := n3_
                    have BK137 := n4_
                    have GW137 := n5_
                    have GE137 := n6_
                    have NB134_137 := n7_
                    have NB137_134 := n8_
                    have NB135_137 := n9_
                    have NB137_135 := n10_
                    have NB139_137 := n11_
                    have NB137_139 := n12_
                    clear n0_ n1_ n2_ n3_ n4_ n5_ n6_ n7_ n8_ n9_ n10_ n11_ n12_
                    clear hb hbox hg
                    refine hK.out _ _ ⟨(blk_cell BK134.out 0).trans rfl, (blk_cell BK134.out 1).trans rfl, (blk_cell BK134.out 2).trans rfl, (blk_cell BK135.out 0).trans rfl, (blk_cell BK135.out 1).trans rfl, (blk_cell BK135.out 2).trans rfl⟩ (fun hHeld => ?_)
                    clear hK K
                    refine norm_ (a' := ?_) ?_ ?_
                    rotate_left
                    · show Act.put _ (some 8) _ = _
                      simp only [Act.put, List.setIfInBounds_toArray, List.set_cons_zero, List.set_cons_succ, i64_w, i32_w]
                      rfl
                    exact norm_ (by first | (simp only [putAll, Act.put, List.setIfInBounds_toArray, List.set_cons_zero, List.set_cons_succ]; done) | (simp only [putAll, Act.put, List.setIfInBounds_toArray, List.set_cons_zero, List.set_cons_succ]; rfl)) (hJ18_20 (gb137, gb139) _ ⟨hHeld, (by (with_reducible repeat (first | refine blk_drewN ?_ _ | refine blk_drew ?_ | refine blk_alloc ?_ _)); exact BK134.out), (by (with_reducible repeat (first | refine blk_drewN ?_ _ | refine blk_drew ?_ | refine blk_alloc ?_ _)); exact BK135.out), (by (with_reducible repeat (first | refine blk_drewN ?_ _ | refine blk_drew ?_ | refine blk_alloc ?_ _)); exact BK137.out), (by (with_reducible repeat (first | refine blk_drewN ?_ _ | refine blk_drew ?_ | refine blk_alloc ?_ _)); exact BK139.out), GW137.out, GE137.out, NB134_137.out, NB137_134.out, NB135_137.out, NB137_135.out, NB139_137.out, NB137_139.out, GW139.out, GE139.out, NB134_139.out, NB139_134.out, NB135_139.out, NB139_135.out, (by repeat (first | (with_reducible first | exact HB.out | apply below_alloc | apply pw_below_drewN | apply below_drew1 | refine below_set ?_ GE134.out | refine below_set ?_ GE135.out | refine below_set ?_ GE139.out | refine below_set ?_ GE137.out) | exact HB.out))⟩)
                  · skip
                    refine box_step ?hg (N := 9) ?hd (cs := #[.int .u64 0, .int .i64 0]) (t := 26) ?hr ?_; (case hd => rfl); (case hg => rfl); (case hr => first | (go_simp; done) | (go_simp; rfl))
                    intro gb138 hg w15 hbox hb
                    have n0_ := Aside0.mk (blk_below (g := gb134) (o := .cells #[.int .u64 a1_0, .int .u64 a1_1, .int .u64 a1_2] 38 (0, 0)) (by (with_reducible repeat (first | refine blk_drewN ?_ _ | refine blk_drew ?_ | refine blk_alloc ?_ _)); exact BK134.out) hb)
                    have n1_ := Aside0.mk (blk_below (g := gb135) (o := .cells #[.int .u8 a2_0, .int .u8 a2_1, .int .u8 a2_2] 39 (0, 0)) (by (with_reducible repeat (first | refine blk_drewN ?_ _ | refine blk_drew ?_ | refine blk_alloc ?_ _)); exact BK135.out) hb)
                    have n2_ := Aside0.mk (blk_below (g := gb139) (o := .cells #[.int .u64 0, .int .i64 0] 26 (0, 0)) (by (with_reducible repeat (first | refine blk_drewN ?_ _ | refine blk_drew ?_ | refine blk_alloc ?_ _)); exact BK139.out) hb)
                    have n3_ := Aside0.mk (below_step (by repeat (first | (with_reducible first | exact HB.out | apply below_alloc | apply pw_below_drewN | apply below_drew1 | refine below_set ?_ GE134.out | refine below_set ?_ GE135.out | refine below_set ?_ GE139.out) | exact HB.out)) hb)
                    have n4_ := Aside0.mk (hbox)
                    have n5_ := Aside0.mk ((by rw [hg]; exact (below_size (by repeat (first | (with_reducible first | exact HB.out | apply below_alloc | apply pw_below_drewN | apply below_drew1 | refine below_set ?_ GE134.out | refine below_set ?_ GE135.out | refine below_set ?_ GE139.out) | exact HB.out))) : w.heap.size ≤ gb138))
                    have n6_ := Aside0.mk ((by rw [hg]; exact (below_size (by repeat (first | (with_reducible first | exact HB.out | apply below_alloc | apply pw_below_drewN | apply below_drew1 | refine below_set ?_ GE134.out | refine below_set ?_ GE135.out | refine below_set ?_ GE139.out) | exact HB.out))) : w.heap.size ≤ gb138))
                    have n7_ := Aside0.mk ((by rw [hg]; exact Nat.ne_of_lt (blk_lt (g := gb134) (o := .cells #[.int .u64 a1_0, .int .u64 a1_1, .int .u64 a1_2] 38 (0, 0)) (by (with_reducible repeat (first | refine blk_drewN ?_ _ | refine blk_drew ?_ | refine blk_alloc ?_ _)); exact BK134.out)) : gb134 ≠ gb138))
                    have n8_ := Aside0.mk ((by rw [hg]; exact Nat.ne_of_gt (blk_lt (g := gb134) (o := .cells #[.int .u64 a1_0, .int .u64 a1_1, .int .u64 a1_2] 38 (0, 0)) (by (with_reducible repeat (first | refine blk_drewN ?_ _ | refine blk_drew ?_ | refine blk_alloc ?_ _)); exact BK134.out)) : gb138 ≠ gb134))
                    have n9_ := Aside0.mk ((by rw [hg]; exact Nat.ne_of_lt (blk_lt (g := gb135) (o := .cells #[.int .u8 a2_0, .int .u8 a2_1, .int .u8 a2_2] 39 (0, 0)) (by (with_reducible repeat (first | refine blk_drewN ?_ _ | refine blk_drew ?_ | refine blk_alloc ?_ _)); exact BK135.out)) : gb135 ≠ gb138))
                    have n10_ := Aside0.mk ((by rw [hg]; exact Nat.ne_of_gt (blk_lt (g := gb135) (o := .cells #[.int .u8 a2_0, .int .u8 a2_1, .int .u8 a2_2] 39 (0, 0)) (by (with_reducible repeat (first | refine blk_drewN ?_ _ | refine blk_drew ?_ | refine blk_alloc ?_ _)); exact BK135.out)) : gb138 ≠ gb135))
                    have n11_ := Aside0.mk ((by rw [hg]; exact Nat.ne_of_lt (blk_lt (g := gb139) (o := .cells #[.int .u64 0, .int .i64 0] 26 (0, 0)) (by (with_reducible repeat (first | refine blk_drewN ?_ _ | refine blk_drew ?_ | refine blk_alloc ?_ _)); exact BK139.out)) : gb139 ≠ gb138))
                    have n12_ := Aside0.mk ((by rw [hg]; exact Nat.ne_of_gt (blk_lt (g := gb139) (o := .cells #[.int .u64 0, .int .i64 0] 26 (0, 0)) (by (with_reducible repeat (first | refine blk_drewN ?_ _ | refine blk_drew ?_ | refine blk_alloc ?_ _)); exact BK139.out)) : gb138 ≠ gb139))
                    clear BK134
                    clear BK135
                    clear BK139
                    clear HB
                    have BK134 := n0_
                    have BK135 := n1_
                    have BK139 := n2_
                    have HB := n3_
                    have BK138 := n4_
                    have GW138 := n5_
                    have GE138 := n6_
                    have NB134_138 := n7_
                    have NB138_134 := n8_
                    have NB135_138 := n9_
                    have NB138_135 := n10_
                    have NB139_138 := n11_
                    have NB138_139 := n12_
                    clear n0_ n1_ n2_ n3_ n4_ n5_ n6_ n7_ n8_ n9_ n10_ n11_ n12_
                    clear hb hbox hg
                    refine hK.out _ _ ⟨(blk_cell BK134.out 0).trans rfl, (blk_cell BK134.out 1).trans rfl, (blk_cell BK134.out 2).trans rfl, (blk_cell BK135.out 0).trans rfl, (blk_cell BK135.out 1).trans rfl, (blk_cell BK135.out 2).trans rfl⟩ (fun hHeld => ?_)
                    clear hK K
                    refine norm_ (a' := ?_) ?_ ?_
                    rotate_left
                    · show Act.put _ (some 9) _ = _
                      simp only [Act.put, List.setIfInBounds_toArray, List.set_cons_zero, List.set_cons_succ, i64_w, i32_w]
                      rfl
                    exact norm_ (by first | (simp only [putAll, Act.put, List.setIfInBounds_toArray, List.set_cons_zero, List.set_cons_succ]; done) | (simp only [putAll, Act.put, List.setIfInBounds_toArray, List.set_cons_zero, List.set_cons_succ]; rfl)) (hJ19_20 (gb138, gb139) _ ⟨hHeld, (by (with_reducible repeat (first | refine blk_drewN ?_ _ | refine blk_drew ?_ | refine blk_alloc ?_ _)); exact BK134.out), (by (with_reducible repeat (first | refine blk_drewN ?_ _ | refine blk_drew ?_ | refine blk_alloc ?_ _)); exact BK135.out), (by (with_reducible repeat (first | refine blk_drewN ?_ _ | refine blk_drew ?_ | refine blk_alloc ?_ _)); exact BK138.out), (by (with_reducible repeat (first | refine blk_drewN ?_ _ | refine blk_drew ?_ | refine blk_alloc ?_ _)); exact BK139.out), GW138.out, GE138.out, NB134_138.out, NB138_134.out, NB135_138.out, NB138_135.out, NB139_138.out, NB138_139.out, GW139.out, GE139.out, NB134_139.out, NB139_134.out, NB135_139.out, NB139_135.out, (by repeat (first | (with_reducible first | exact HB.out | apply below_alloc | apply pw_below_drewN | apply below_drew1 | refine below_set ?_ GE134.out | refine below_set ?_ GE135.out | refine below_set ?_ GE139.out | refine below_set ?_ GE138.out) | exact HB.out))⟩)
              · skip
                rintro gb138 w14 ⟨hS_, h0_, h1_, h2_, h3_, h4_, h5_, h6_, h7_, h8_, h9_⟩
                have n0_ : Aside0 (w14.heap[gb134]? = some (.cells #[.int .u64 a1_0, .int .u64 a1_1, .int .u64 a1_2] 38 (0, 0))) := ⟨h0_⟩
                have n1_ : Aside0 (w14.heap[gb135]? = some (.cells #[.int .u8 a2_0, .int .u8 a2_1, .int .u8 a2_2] 39 (0, 0))) := ⟨h1_⟩
                have n2_ : Aside0 (w14.heap[gb138]? = some (.cells #[.int .u64 0, .int .i64 0] 26 (0, 0))) := ⟨h2_⟩
                have n3_ : Aside0 (w.heap.size ≤ gb138) := ⟨h3_⟩
                have n4_ : Aside0 (w.heap.size ≤ gb138) := ⟨h4_⟩
                have n5_ : Aside0 (gb134 ≠ gb138) := ⟨h5_⟩
                have n6_ : Aside0 (gb138 ≠ gb134) := ⟨h6_⟩
                have n7_ : Aside0 (gb135 ≠ gb138) := ⟨h7_⟩
                have n8_ : Aside0 (gb138 ≠ gb135) := ⟨h8_⟩
                have n9_ : Aside0 (Below w.heap.size w w14) := ⟨h9_⟩
                clear BK134
                clear BK135
                clear HB
                clear h0_ h1_ h2_ h3_ h4_ h5_ h6_ h7_ h8_ h9_
                have BK134 := n0_
                have BK135 := n1_
                have BK138 := n2_
                have GW138 := n3_
                have GE138 := n4_
                have NB134_138 := n5_
                have NB138_134 := n6_
                have NB135_138 := n7_
                have NB138_135 := n8_
                have HB := n9_
                clear n0_ n1_ n2_ n3_ n4_ n5_ n6_ n7_ n8_ n9_
                have hHeld : w14.cell? ⟨gb134, 0, none⟩ = some (.int .u64 a1_0) ∧ w14.cell? ⟨gb134, 1, none⟩ = some (.int .u64 a1_1) ∧ w14.cell? ⟨gb134, 2, none⟩ = some (.int .u64 a1_2) ∧ w14.cell? ⟨gb135, 0, none⟩ = some (.int .u8 a2_0) ∧ w14.cell? ⟨gb135, 1, none⟩ = some (.int .u8 a2_1) ∧ w14.cell? ⟨gb135, 2, none⟩ = some (.int .u8 a2_2) := hS_
                refine norm_ (a' := ?_) ?_ ?_
                rotate_left
                · simp only [putAll, Act.put, List.setIfInBounds_toArray, List.set_cons_zero, List.set_cons_succ]
                  rfl
                refine two_ (i := 18) (j := 20) (Ni := some 8) (Nj := some 10) #[true, true, true, true, true, true, true, true, true, true, true, true, true, true, true, true, true, true, true, true, false, false, false, false] #[true, true, true, true, true, true, true, true, true, true, true, true, true, true, true, true, true, true, false, true, true, false, false, false] rfl rfl rfl rfl (two_of HT_.out (by kernel_rfl)) (by decide) (by decide) (fun K hK => ?_) (fun K hK => ?_)
                · skip
                  refine box_step ?hg (N := 8) ?hd (cs := #[.int .u64 0, .int .i64 0]) (t := 26) ?hr ?_; (case hd => rfl); (case hg => rfl); (case hr => first | (go_simp; done) | (go_simp; rfl))
                  intro gb137 hg w15 hbox hb
                  have n0_ := Aside0.mk (blk_below (g := gb134) (o := .cells #[.int .u64 a1_0, .int .u64 a1_1, .int .u64 a1_2] 38 (0, 0)) (by (with_reducible repeat (first | refine blk_drewN ?_ _ | refine blk_drew ?_ | refine blk_alloc ?_ _)); exact BK134.out) hb)
                  have n1_ := Aside0.mk (blk_below (g := gb135) (o := .cells #[.int .u8 a2_0, .int .u8 a2_1, .int .u8 a2_2] 39 (0, 0)) (by (with_reducible repeat (first | refine blk_drewN ?_ _ | refine blk_drew ?_ | refine blk_alloc ?_ _)); exact BK135.out) hb)
                  have n2_ := Aside0.mk (blk_below (g := gb138) (o := .cells #[.int .u64 0, .int .i64 0] 26 (0, 0)) (by (with_reducible repeat (first | refine blk_drewN ?_ _ | refine blk_drew ?_ | refine blk_alloc ?_ _)); exact BK138.out) hb)
                  have n3_ := Aside0.mk (below_step (by repeat (first | (with_reducible first | exact HB.out | apply below_alloc | apply pw_below_drewN | apply below_drew1 | refine below_set ?_ GE134.out | refine below_set ?_ GE135.out | refine below_set ?_ GE138.out) | exact HB.out)) hb)
                  have n4_ := Aside0.mk (hbox)
                  have n5_ := Aside0.mk ((by rw [hg]; exact (below_size (by repeat (first | (with_reducible first | exact HB.out | apply below_alloc | apply pw_below_drewN | apply below_drew1 | refine below_set ?_ GE134.out | refine below_set ?_ GE135.out | refine below_set ?_ GE138.out) | exact HB.out))) : w.heap.size ≤ gb137))
                  have n6_ := Aside0.mk ((by rw [hg]; exact (below_size (by repeat (first | (with_reducible first | exact HB.out | apply below_alloc | apply pw_below_drewN | apply below_drew1 | refine below_set ?_ GE134.out | refine below_set ?_ GE135.out | refine below_set ?_ GE138.out) | exact HB.out))) : w.heap.size ≤ gb137))
                  have n7_ := Aside0.mk ((by rw [hg]; exact Nat.ne_of_lt (blk_lt (g := gb134) (o := .cells #[.int .u64 a1_0, .int .u64 a1_1, .int .u64 a1_2] 38 (0, 0)) (by (with_reducible repeat (first | refine blk_drewN ?_ _ | refine blk_drew ?_ | refine blk_alloc ?_ _)); exact BK134.out)) : gb134 ≠ gb137))
                  have n8_ := Aside0.mk ((by rw [hg]; exact Nat.ne_of_gt (blk_lt (g := gb134) (o := .cells #[.int .u64 a1_0, .int .u64 a1_1, .int .u64 a1_2] 38 (0, 0)) (by (with_reducible repeat (first | refine blk_drewN ?_ _ | refine blk_drew ?_ | refine blk_alloc ?_ _)); exact BK134.out)) : gb137 ≠ gb134))
                  have n9_ := Aside0.mk ((by rw [hg]; exact Nat.ne_of_lt (blk_lt (g := gb135) (o := .cells #[.int .u8 a2_0, .int .u8 a2_1, .int .u8 a2_2] 39 (0, 0)) (by (with_reducible repeat (first | refine blk_drewN ?_ _ | refine blk_drew ?_ | refine blk_alloc ?_ _)); exact BK135.out)) : gb135 ≠ gb137))
                  have n10_ := Aside0.mk ((by rw [hg]; exact Nat.ne_of_gt (blk_lt (g := gb135) (o := .cells #[.int .u8 a2_0, .int .u8 a2_1, .int .u8 a2_2] 39 (0, 0)) (by (with_reducible repeat (first | refine blk_drewN ?_ _ | refine blk_drew ?_ | refine blk_alloc ?_ _)); exact BK135.out)) : gb137 ≠ gb135))
                  have n11_ := Aside0.mk ((by rw [hg]; exact Nat.ne_of_lt (blk_lt (g := gb138) (o := .cells #[.int .u64 0, .int .i64 0] 26 (0, 0)) (by (with_reducible repeat (first | refine blk_drewN ?_ _ | refine blk_drew ?_ | refine blk_alloc ?_ _)); exact BK138.out)) : gb138 ≠ gb137))
                  have n12_ := Aside0.mk ((by rw [hg]; exact Nat.ne_of_gt (blk_lt (g := gb138) (o := .cells #[.int .u64 0, .int .i64 0] 26 (0, 0)) (by (with_reducible repeat (first | refine blk_drewN ?_ _ | refine blk_drew ?_ | refine blk_alloc ?_ _)); exact BK138.out)) : gb137 ≠ gb138))
                  clear BK134
                  clear BK135
                  clear BK138
                  clear HB
                  have BK134 := n0_
                  have BK135 := n1_
                  have BK138 := n2_
                  have HB := n3_
                  have BK137 := n4_
                  have GW137 := n5_
                  have GE137 := n6_
                  have NB134_137 := n7_
                  have NB137_134 := n8_
                  have NB135_137 := n9_
                  have NB137_135 := n10_
                  have NB138_137 := n11_
                  have NB137_138 := n12_
                  clear n0_ n1_ n2_ n3_ n4_ n5_ n6_ n7_ n8_ n9_ n10_ n11_ n12_
                  clear hb hbox hg
                  refine hK.out _ _ ⟨(blk_cell BK134.out 0).trans rfl, (blk_cell BK134.out 1).trans rfl, (blk_cell BK134.out 2).trans rfl, (blk_cell BK135.out 0).trans rfl, (blk_cell BK135.out 1).trans rfl, (blk_cell BK135.out 2).trans rfl⟩ (fun hHeld => ?_)
                  clear hK K
                  refine norm_ (a' := ?_) ?_ ?_
                  rotate_left
                  · show Act.put _ (some 8) _ = _
                    simp only [Act.put, List.setIfInBounds_toArray, List.set_cons_zero, List.set_cons_succ, i64_w, i32_w]
                    rfl
                  exact norm_ (by first | (simp only [putAll, Act.put, List.setIfInBounds_toArray, List.set_cons_zero, List.set_cons_succ]; done) | (simp only [putAll, Act.put, List.setIfInBounds_toArray, List.set_cons_zero, List.set_cons_succ]; rfl)) (hJ18_19 (gb137, gb138) _ ⟨hHeld, (by (with_reducible repeat (first | refine blk_drewN ?_ _ | refine blk_drew ?_ | refine blk_alloc ?_ _)); exact BK134.out), (by (with_reducible repeat (first | refine blk_drewN ?_ _ | refine blk_drew ?_ | refine blk_alloc ?_ _)); exact BK135.out), (by (with_reducible repeat (first | refine blk_drewN ?_ _ | refine blk_drew ?_ | refine blk_alloc ?_ _)); exact BK137.out), (by (with_reducible repeat (first | refine blk_drewN ?_ _ | refine blk_drew ?_ | refine blk_alloc ?_ _)); exact BK138.out), GW137.out, GE137.out, NB134_137.out, NB137_134.out, NB135_137.out, NB137_135.out, NB138_137.out, NB137_138.out, GW138.out, GE138.out, NB134_138.out, NB138_134.out, NB135_138.out, NB138_135.out, (by repeat (first | (with_reducible first | exact HB.out | apply below_alloc | apply pw_below_drewN | apply below_drew1 | refine below_set ?_ GE134.out | refine below_set ?_ GE135.out | refine below_set ?_ GE138.out | refine below_set ?_ GE137.out) | exact HB.out))⟩)
                · skip
                  refine box_step ?hg (N := 10) ?hd (cs := #[.int .u64 0, .int .i64 0]) (t := 26) ?hr ?_; (case hd => rfl); (case hg => rfl); (case hr => first | (go_simp; done) | (go_simp; rfl))
                  intro gb139 hg w15 hbox hb
                  have n0_ := Aside0.mk (blk_below (g := gb134) (o := .cells #[.int .u64 a1_0, .int .u64 a1_1, .int .u64 a1_2] 38 (0, 0)) (by (with_reducible repeat (first | refine blk_drewN ?_ _ | refine blk_drew ?_ | refine blk_alloc ?_ _)); exact BK134.out) hb)
                  have n1_ := Aside0.mk (blk_below (g := gb135) (o := .cells #[.int .u8 a2_0, .int .u8 a2_1, .int .u8 a2_2] 39 (0, 0)) (by (with_reducible repeat (first | refine blk_drewN ?_ _ | refine blk_drew ?_ | refine blk_alloc ?_ _)); exact BK135.out) hb)
                  have n2_ := Aside0.mk (blk_below (g := gb138) (o := .cells #[.int .u64 0, .int .i64 0] 26 (0, 0)) (by (with_reducible repeat (first | refine blk_drewN ?_ _ | refine blk_drew ?_ | refine blk_alloc ?_ _)); exact BK138.out) hb)
                  have n3_ := Aside0.mk (below_step (by repeat (first | (with_reducible first | exact HB.out | apply below_alloc | apply pw_below_drewN | apply below_drew1 | refine below_set ?_ GE134.out | refine below_set ?_ GE135.out | refine below_set ?_ GE138.out) | exact HB.out)) hb)
                  have n4_ := Aside0.mk (hbox)
                  have n5_ := Aside0.mk ((by rw [hg]; exact (below_size (by repeat (first | (with_reducible first | exact HB.out | apply below_alloc | apply pw_below_drewN | apply below_drew1 | refine below_set ?_ GE134.out | refine below_set ?_ GE135.out | refine below_set ?_ GE138.out) | exact HB.out))) : w.heap.size ≤ gb139))
                  have n6_ := Aside0.mk ((by rw [hg]; exact (below_size (by repeat (first | (with_reducible first | exact HB.out | apply below_alloc | apply pw_below_drewN | apply below_drew1 | refine below_set ?_ GE134.out | refine below_set ?_ GE135.out | refine below_set ?_ GE138.out) | exact HB.out))) : w.heap.size ≤ gb139))
                  have n7_ := Aside0.mk ((by rw [hg]; exact Nat.ne_of_lt (blk_lt (g := gb134) (o := .cells #[.int .u64 a1_0, .int .u64 a1_1, .int .u64 a1_2] 38 (0, 0)) (by (with_reducible repeat (first | refine blk_drewN ?_ _ | refine blk_drew ?_ | refine blk_alloc ?_ _)); exact BK134.out)) : gb134 ≠ gb139))
                  have n8_ := Aside0.mk ((by rw [hg]; exact Nat.ne_of_gt (blk_lt (g := gb134) (o := .cells #[.int .u64 a1_0, .int .u64 a1_1, .int .u64 a1_2] 38 (0, 0)) (by (with_reducible repeat (first | refine blk_drewN ?_ _ | refine blk_drew ?_ | refine blk_alloc ?_ _)); exact BK134.out)) : gb139 ≠ gb134))
                  have n9_ := Aside0.mk ((by rw [hg]; exact Nat.ne_of_lt (blk_lt (g := gb135) (o := .cells #[.int .u8 a2_0, .int .u8 a2_1, .int .u8 a2_2] 39 (0, 0)) (by (with_reducible repeat (first | refine blk_drewN ?_ _ | refine blk_drew ?_ | refine blk_alloc ?_ _)); exact BK135.out)) : gb135 ≠ gb139))
                  have n10_ := Aside0.mk ((by rw [hg]; exact Nat.ne_of_gt (blk_lt (g := gb135) (o := .cells #[.int .u8 a2_0, .int .u8 a2_1, .int .u8 a2_2] 39 (0, 0)) (by (with_reducible repeat (first | refine blk_drewN ?_ _ | refine blk_drew ?_ | refine blk_alloc ?_ _)); exact BK135.out)) : gb139 ≠ gb135))
                  have n11_ := Aside0.mk ((by rw [hg]; exact Nat.ne_of_lt (blk_lt (g := gb138) (o := .cells #[.int .u64 0, .int .i64 0] 26 (0, 0)) (by (with_reducible repeat (first | refine blk_drewN ?_ _ | refine blk_drew ?_ | refine blk_alloc ?_ _)); exact BK138.out)) : gb138 ≠ gb139))
                  have n12_ := Aside0.mk ((by rw [hg]; exact Nat.ne_of_gt (blk_lt (g := gb138) (o := .cells #[.int .u64 0, .int .i64 0] 26 (0, 0)) (by (with_reducible repeat (first | refine blk_drewN ?_ _ | refine blk_drew ?_ | refine blk_alloc ?_ _)); exact BK138.out)) : gb139 ≠ gb138))
                  clear BK134
                  clear BK135
                  clear BK138
                  clear HB
                  have BK134 := n0_
                  have BK135 := n1_
                  have BK138 := n2_
                  have HB := n3_
                  have BK139 := n4_
                  have GW139 := n5_
                  have GE139 := n6_
                  have NB134_139 := n7_
                  have NB139_134 := n8_
                  have NB135_139 := n9_
                  have NB139_135 := n10_
                  have NB138_139 := n11_
                  have NB139_138 := n12_
                  clear n0_ n1_ n2_ n3_ n4_ n5_ n6_ n7_ n8_ n9_ n10_ n11_ n12_
                  clear hb hbox hg
                  refine hK.out _ _ ⟨(blk_cell BK134.out 0).trans rfl, (blk_cell BK134.out 1).trans rfl, (blk_cell BK134.out 2).trans rfl, (blk_cell BK135.out 0).trans rfl, (blk_cell BK135.out 1).trans rfl, (blk_cell BK135.out 2).trans rfl⟩ (fun hHeld => ?_)
                  clear hK K
                  refine norm_ (a' := ?_) ?_ ?_
                  rotate_left
                  · show Act.put _ (some 10) _ = _
                    simp only [Act.put, List.setIfInBounds_toArray, List.set_cons_zero, List.set_cons_succ, i64_w, i32_w]
                    rfl
                  exact norm_ (by first | (simp only [putAll, Act.put, List.setIfInBounds_toArray, List.set_cons_zero, List.set_cons_succ]; done) | (simp only [putAll, Act.put, List.setIfInBounds_toArray, List.set_cons_zero, List.set_cons_succ]; rfl)) (hJ19_20 (gb138, gb139) _ ⟨hHeld, (by (with_reducible repeat (first | refine blk_drewN ?_ _ | refine blk_drew ?_ | refine blk_alloc ?_ _)); exact BK134.out), (by (with_reducible repeat (first | refine blk_drewN ?_ _ | refine blk_drew ?_ | refine blk_alloc ?_ _)); exact BK135.out), (by (with_reducible repeat (first | refine blk_drewN ?_ _ | refine blk_drew ?_ | refine blk_alloc ?_ _)); exact BK138.out), (by (with_reducible repeat (first | refine blk_drewN ?_ _ | refine blk_drew ?_ | refine blk_alloc ?_ _)); exact BK139.out), GW138.out, GE138.out, NB134_138.out, NB138_134.out, NB135_138.out, NB138_135.out, NB139_138.out, NB138_139.out, GW139.out, GE139.out, NB134_139.out, NB139_134.out, NB135_139.out, NB139_135.out, (by repeat (first | (with_reducible first | exact HB.out | apply below_alloc | apply pw_below_drewN | apply below_drew1 | refine below_set ?_ GE134.out | refine below_set ?_ GE135.out | refine below_set ?_ GE138.out | refine below_set ?_ GE139.out) | exact HB.out))⟩)
            · skip
              rintro gb137 w14 ⟨hS_, h0_, h1_, h2_, h3_, h4_, h5_, h6_, h7_, h8_, h9_⟩
              have n0_ : Aside0 (w14.heap[gb134]? = some (.cells #[.int .u64 a1_0, .int .u64 a1_1, .int .u64 a1_2] 38 (0, 0))) := ⟨h0_⟩
              have n1_ : Aside0 (w14.heap[gb135]? = some (.cells #[.int .u8 a2_0, .int .u8 a2_1, .int .u8 a2_2] 39 (0, 0))) := ⟨h1_⟩
              have n2_ : Aside0 (w14.heap[gb137]? = some (.cells #[.int .u64 0, .int .i64 0] 26 (0, 0))) := ⟨h2_⟩
              have n3_ : Aside0 (w.heap.size ≤ gb137) := ⟨h3_⟩
              have n4_ : Aside0 (w.heap.size ≤ gb137) := ⟨h4_⟩
              have n5_ : Aside0 (gb134 ≠ gb137) := ⟨h5_⟩
              have n6_ : Aside0 (gb137 ≠ gb134) := ⟨h6_⟩
              have n7_ : Aside0 (gb135 ≠ gb137) := ⟨h7_⟩
              have n8_ : Aside0 (gb137 ≠ gb135) := ⟨h8_⟩
              have n9_ : Aside0 (Below w.heap.size w w14) := ⟨h9_⟩
              clear BK134
              clear BK135
              clear HB
              clear h0_ h1_ h2_ h3_ h4_ h5_ h6_ h7_ h8_ h9_
              have BK134 := n0_
              have BK135 := n1_
              have BK137 := n2_
              have GW137 := n3_
              have GE137 := n4_
              have NB134_137 := n5_
              have NB137_134 := n6_
              have NB135_137 := n7_
              have NB137_135 := n8_
              have HB := n9_
              clear n0_ n1_ n2_ n3_ n4_ n5_ n6_ n7_ n8_ n9_
              have hHeld : w14.cell? ⟨gb134, 0, none⟩ = some (.int .u64 a1_0) ∧ w14.cell? ⟨gb134, 1, none⟩ = some (.int .u64 a1_1) ∧ w14.cell? ⟨gb134, 2, none⟩ = some (.int .u64 a1_2) ∧ w14.cell? ⟨gb135, 0, none⟩ = some (.int .u8 a2_0) ∧ w14.cell? ⟨gb135, 1, none⟩ = some (.int .u8 a2_1) ∧ w14.cell? ⟨gb135, 2, none⟩ = some (.int .u8 a2_2) := hS_
              refine norm_ (a' := ?_) ?_ ?_
              rotate_left
              · simp only [putAll, Act.put, List.setIfInBounds_toArray, List.set_cons_zero, List.set_cons_succ]
                rfl
              refine two_ (i := 19) (j := 20) (Ni := some 9) (Nj := some 10) #[true, true, true, true, true, true, true, true, true, true, true, true, true, true, true, true, true, true, true, true, false, false, false, false] #[true, true, true, true, true, true, true, true, true, true, true, true, true, true, true, true, true, true, true, false, true, false, false, false] rfl rfl rfl rfl (two_of HT_.out (by kernel_rfl)) (by decide) (by decide) (fun K hK => ?_) (fun K hK => ?_)
              · skip
                refine box_step ?hg (N := 9) ?hd (cs := #[.int .u64 0, .int .i64 0]) (t := 26) ?hr ?_; (case hd => rfl); (case hg => rfl); (case hr => first | (go_simp; done) | (go_simp; rfl))
                intro gb138 hg w15 hbox hb
                have n0_ := Aside0.mk (blk_below (g := gb134) (o := .cells #[.int .u64 a1_0, .int .u64 a1_1, .int .u64 a1_2] 38 (0, 0)) (by (with_reducible repeat (first | refine blk_drewN ?_ _ | refine blk_drew ?_ | refine blk_alloc ?_ _)); exact BK134.out) hb)
                have n1_ := Aside0.mk (blk_below (g := gb135) (o := .cells #[.int .u8 a2_0, .int .u8 a2_1, .int .u8 a2_2] 39 (0, 0)) (by (with_reducible repeat (first | refine blk_drewN ?_ _ | refine blk_drew ?_ | refine blk_alloc ?_ _)); exact BK135.out) hb)
                have n2_ := Aside0.mk (blk_below (g := gb137) (o := .cells #[.int .u64 0, .int .i64 0] 26 (0, 0)) (by (with_reducible repeat (first | refine blk_drewN ?_ _ | refine blk_drew ?_ | refine blk_alloc ?_ _)); exact BK137.out) hb)
                have n3_ := Aside0.mk (below_step (by repeat (first | (with_reducible first | exact HB.out | apply below_alloc | apply pw_below_drewN | apply below_drew1 | refine below_set ?_ GE134.out | refine below_set ?_ GE135.out | refine below_set ?_ GE137.out) | exact HB.out)) hb)
                have n4_ := Aside0.mk (hbox)
                have n5_ := Aside0.mk ((by rw [hg]; exact (below_size (by repeat (first | (with_reducible first | exact HB.out | apply below_alloc | apply pw_below_drewN | apply below_drew1 | refine below_set ?_ GE134.out | refine below_set ?_ GE135.out | refine below_set ?_ GE137.out) | exact HB.out))) : w.heap.size ≤ gb138))
                have n6_ := Aside0.mk ((by rw [hg]; exact (below_size (by repeat (first | (with_reducible first | exact HB.out | apply below_alloc | apply pw_below_drewN | apply below_drew1 | refine below_set ?_ GE134.out | refine below_set ?_ GE135.out | refine below_set ?_ GE137.out) | exact HB.out))) : w.heap.size ≤ gb138))
                have n7_ := Aside0.mk ((by rw [hg]; exact Nat.ne_of_lt (blk_lt (g := gb134) (o := .cells #[.int .u64 a1_0, .int .u64 a1_1, .int .u64 a1_2] 38 (0, 0)) (by (with_reducible repeat (first | refine blk_drewN ?_ _ | refine blk_drew ?_ | refine blk_alloc ?_ _)); exact BK134.out)) : gb134 ≠ gb138))
                have n8_ := Aside0.mk ((by rw [hg]; exact Nat.ne_of_gt (blk_lt (g := gb134) (o := .cells #[.int .u64 a1_0, .int .u64 a1_1, .int .u64 a1_2] 38 (0, 0)) (by (with_reducible repeat (first | refine blk_drewN ?_ _ | refine blk_drew ?_ | refine blk_alloc ?_ _)); exact BK134.out)) : gb138 ≠ gb134))
                have n9_ := Aside0.mk ((by rw [hg]; exact Nat.ne_of_lt (blk_lt (g := gb135) (o := .cells #[.int .u8 a2_0, .int .u8 a2_1, .int .u8 a2_2] 39 (0, 0)) (by (with_reducible repeat (first | refine blk_drewN ?_ _ | refine blk_drew ?_ | refine blk_alloc ?_ _)); exact BK135.out)) : gb135 ≠ gb138))
                have n10_ := Aside0.mk ((by rw [hg]; exact Nat.ne_of_gt (blk_lt (g := gb135) (o := .cells #[.int .u8 a2_0, .int .u8 a2_1, .int .u8 a2_2] 39 (0, 0)) (by (with_reducible repeat (first | refine blk_drewN ?_ _ | refine blk_drew ?_ | refine blk_alloc ?_ _)); exact BK135.out)) : gb138 ≠ gb135))
                have n11_ := Aside0.mk ((by rw [hg]; exact Nat.ne_of_lt (blk_lt (g := gb137) (o := .cells #[.int .u64 0, .int .i64 0] 26 (0, 0)) (by (with_reducible repeat (first | refine blk_drewN ?_ _ | refine blk_drew ?_ | refine blk_alloc ?_ _)); exact BK137.out)) : gb137 ≠ gb138))
                have n12_ := Aside0.mk ((by rw [hg]; exact Nat.ne_of_gt (blk_lt (g := gb137) (o := .cells #[.int .u64 0, .int .i64 0] 26 (0, 0)) (by (with_reducible repeat (first | refine blk_drewN ?_ _ | refine blk_drew ?_ | refine blk_alloc ?_ _)); exact BK137.out)) : gb138 ≠ gb137))
                clear BK134
                clear BK135
                clear BK137
                clear HB
                have BK134 := n0_
                have BK135 := n1_
                have BK137 := n2_
                have HB := n3_
                have BK138 := n4_
                have GW138 := n5_
                have GE138 := n6_
                have NB134_138 := n7_
                have NB138_134 := n8_
                have NB135_138 := n9_
                have NB138_135 := n10_
                have NB137_138 := n11_
                have NB138_137 := n12_
                clear n0_ n1_ n2_ n3_ n4_ n5_ n6_ n7_ n8_ n9_ n10_ n11_ n12_
                clear hb hbox hg
                refine hK.out _ _ ⟨(blk_cell BK134.out 0).trans rfl, (blk_cell BK134.out 1).trans rfl, (blk_cell BK134.out 2).trans rfl, (blk_cell BK135.out 0).trans rfl, (blk_cell BK135.out 1).trans rfl, (blk_cell BK135.out 2).trans rfl⟩ (fun hHeld => ?_)
                clear hK K
                refine norm_ (a' := ?_) ?_ ?_
                rotate_left
                · show Act.put _ (some 9) _ = _
                  simp only [Act.put, List.setIfInBounds_toArray, List.set_cons_zero, List.set_cons_succ, i64_w, i32_w]
                  rfl
                exact norm_ (by first | (simp only [putAll, Act.put, List.setIfInBounds_toArray, List.set_cons_zero, List.set_cons_succ]; done) | (simp only [putAll, Act.put, List.setIfInBounds_toArray, List.set_cons_zero, List.set_cons_succ]; rfl)) (hJ18_19 (gb137, gb138) _ ⟨hHeld, (by (with_reducible repeat (first | refine blk_drewN ?_ _ | refine blk_drew ?_ | refine blk_alloc ?_ _)); exact BK134.out), (by (with_reducible repeat (first | refine blk_drewN ?_ _ | refine blk_drew ?_ | refine blk_alloc ?_ _)); exact BK135.out), (by (with_reducible repeat (first | refine blk_drewN ?_ _ | refine blk_drew ?_ | refine blk_alloc ?_ _)); exact BK137.out), (by (with_reducible repeat (first | refine blk_drewN ?_ _ | refine blk_drew ?_ | refine blk_alloc ?_ _)); exact BK138.out), GW137.out, GE137.out, NB134_137.out, NB137_134.out, NB135_137.out, NB137_135.out, NB138_137.out, NB137_138.out, GW138.out, GE138.out, NB134_138.out, NB138_134.out, NB135_138.out, NB138_135.out, (by repeat (first | (with_reducible first | exact HB.out | apply below_alloc | apply pw_below_drewN | apply below_drew1 | refine below_set ?_ GE134.out | refine below_set ?_ GE135.out | refine below_set ?_ GE137.out | refine below_set ?_ GE138.out) | exact HB.out))⟩)
              · skip
                refine box_step ?hg (N := 10) ?hd (cs := #[.int .u64 0, .int .i64 0]) (t := 26) ?hr ?_; (case hd => rfl); (case hg => rfl); (case hr => first | (go_simp; done) | (go_simp; rfl))
                intro gb139 hg w15 hbox hb
                have n0_ := Aside0.mk (blk_below (g := gb134) (o := .cells #[.int .u64 a1_0, .int .u64 a1_1, .int .u64 a1_2] 38 (0, 0)) (by (with_reducible repeat (first | refine blk_drewN ?_ _ | refine blk_drew ?_ | refine blk_alloc ?_ _)); exact BK134.out) hb)
                have n1_ := Aside0.mk (blk_below (g := gb135) (o := .cells #[.int .u8 a2_0, .int .u8 a2_1, .int .u8 a2_2] 39 (0, 0)) (by (with_reducible repeat (first | refine blk_drewN ?_ _ | refine blk_drew ?_ | refine blk_alloc ?_ _)); exact BK135.out) hb)
                have n2_ := Aside0.mk (blk_below (g := gb137) (o := .cells #[.int .u64 0, .int .i64 0] 26 (0, 0)) (by (with_reducible repeat (first | refine blk_drewN ?_ _ | refine blk_drew ?_ | refine blk_alloc ?_ _)); exact BK137.out) hb)
                have n3_ := Aside0.mk (below_step (by repeat (first | (with_reducible first | exact HB.out | apply below_alloc | apply pw_below_drewN | apply below_drew1 | refine below_set ?_ GE134.out | refine below_set ?_ GE135.out | refine below_set ?_ GE137.out) | exact HB.out)) hb)
                have n4_ := Aside0.mk (hbox)
                have n5_ := Aside0.mk ((by rw [hg]; exact (below_size (by repeat (first | (with_reducible first | exact HB.out | apply below_alloc | apply pw_below_drewN | apply below_drew1 | refine below_set ?_ GE134.out | refine below_set ?_ GE135.out | refine below_set ?_ GE137.out) | exact HB.out))) : w.heap.size ≤ gb139))
                have n6_ := Aside0.mk ((by rw [hg]; exact (below_size (by repeat (first | (with_reducible first | exact HB.out | apply below_alloc | apply pw_below_drewN | apply below_drew1 | refine below_set ?_ GE134.out | refine below_set ?_ GE135.out | refine below_set ?_ GE137.out) | exact HB.out))) : w.heap.size ≤ gb139))
                have n7_ := Aside0.mk ((by rw [hg]; exact Nat.ne_of_lt (blk_lt (g := gb134) (o := .cells #[.int .u64 a1_0, .int .u64 a1_1, .int .u64 a1_2] 38 (0, 0)) (by (with_reducible repeat (first | refine blk_drewN ?_ _ | refine blk_drew ?_ | refine blk_alloc ?_ _)); exact BK134.out)) : gb134 ≠ gb139))
                have n8_ := Aside0.mk ((by rw [hg]; exact Nat.ne_of_gt (blk_lt (g := gb134) (o := .cells #[.int .u64 a1_0, .int .u64 a1_1, .int .u64 a1_2] 38 (0, 0)) (by (with_reducible repeat (first | refine blk_drewN ?_ _ | refine blk_drew ?_ | refine blk_alloc ?_ _)); exact BK134.out)) : gb139 ≠ gb134))
                have n9_ := Aside0.mk ((by rw [hg]; exact Nat.ne_of_lt (blk_lt (g := gb135) (o := .cells #[.int .u8 a2_0, .int .u8 a2_1, .int .u8 a2_2] 39 (0, 0)) (by (with_reducible repeat (first | refine blk_drewN ?_ _ | refine blk_drew ?_ | refine blk_alloc ?_ _)); exact BK135.out)) : gb135 ≠ gb139))
                have n10_ := Aside0.mk ((by rw [hg]; exact Nat.ne_of_gt (blk_lt (g := gb135) (o := .cells #[.int .u8 a2_0, .int .u8 a2_1, .int .u8 a2_2] 39 (0, 0)) (by (with_reducible repeat (first | refine blk_drewN ?_ _ | refine blk_drew ?_ | refine blk_alloc ?_ _)); exact BK135.out)) : gb139 ≠ gb135))
                have n11_ := Aside0.mk ((by rw [hg]; exact Nat.ne_of_lt (blk_lt (g := gb137) (o := .cells #[.int .u64 0, .int .i64 0] 26 (0, 0)) (by (with_reducible repeat (first | refine blk_drewN ?_ _ | refine blk_drew ?_ | refine blk_alloc ?_ _)); exact BK137.out)) : gb137 ≠ gb139))
                have n12_ := Aside0.mk ((by rw [hg]; exact Nat.ne_of_gt (blk_lt (g := gb137) (o := .cells #[.int .u64 0, .int .i64 0] 26 (0, 0)) (by (with_reducible repeat (first | refine blk_drewN ?_ _ | refine blk_drew ?_ | refine blk_alloc ?_ _)); exact BK137.out)) : gb139 ≠ gb137))
                clear BK134
                clear BK135
                clear BK137
                clear HB
                have BK134 := n0_
                have BK135 := n1_
                have BK137 := n2_
                have HB := n3_
                have BK139 := n4_
                have GW139 := n5_
                have GE139 := n6_
                have NB134_139 := n7_
                have NB139_134 := n8_
                have NB135_139 := n9_
                have NB139_135 := n10_
                have NB137_139 := n11_
                have NB139_137 := n12_
                clear n0_ n1_ n2_ n3_ n4_ n5_ n6_ n7_ n8_ n9_ n10_ n11_ n12_
                clear hb hbox hg
                refine hK.out _ _ ⟨(blk_cell BK134.out 0).trans rfl, (blk_cell BK134.out 1).trans rfl, (blk_cell BK134.out 2).trans rfl, (blk_cell BK135.out 0).trans rfl, (blk_cell BK135.out 1).trans rfl, (blk_cell BK135.out 2).trans rfl⟩ (fun hHeld => ?_)
                clear hK K
                refine norm_ (a' := ?_) ?_ ?_
                rotate_left
                · show Act.put _ (some 10) _ = _
                  simp only [Act.put, List.setIfInBounds_toArray, List.set_cons_zero, List.set_cons_succ, i64_w, i32_w]
                  rfl
                exact norm_ (by first | (simp only [putAll, Act.put, List.setIfInBounds_toArray, List.set_cons_zero, List.set_cons_succ]; done) | (simp only [putAll, Act.put, List.setIfInBounds_toArray, List.set_cons_zero, List.set_cons_succ]; rfl)) (hJ18_20 (gb137, gb139) _ ⟨hHeld, (by (with_reducible repeat (first | refine blk_drewN ?_ _ | refine blk_drew ?_ | refine blk_alloc ?_ _)); exact BK134.out), (by (with_reducible repeat (first | refine blk_drewN ?_ _ | refine blk_drew ?_ | refine blk_alloc ?_ _)); exact BK135.out), (by (with_reducible repeat (first | refine blk_drewN ?_ _ | refine blk_drew ?_ | refine blk_alloc ?_ _)); exact BK137.out), (by (with_reducible repeat (first | refine blk_drewN ?_ _ | refine blk_drew ?_ | refine blk_alloc ?_ _)); exact BK139.out), GW137.out, GE137.out, NB134_137.out, NB137_134.out, NB135_137.out, NB137_135.out, NB139_137.out, NB137_139.out, GW139.out, GE139.out, NB134_139.out, NB139_134.out, NB135_139.out, NB139_135.out, (by repeat (first | (with_reducible first | exact HB.out | apply below_alloc | apply pw_below_drewN | apply below_drew1 | refine below_set ?_ GE134.out | refine below_set ?_ GE135.out | refine below_set ?_ GE137.out | refine below_set ?_ GE139.out) | exact HB.out))⟩)
          · skip
            rintro ⟨gb138, gb139⟩ w15 ⟨hS_, h0_, h1_, h2_, h3_, h4_, h5_, h6_, h7_, h8_, h9_, h10_, h11_, h12_, h13_, h14_, h15_, h16_, h17_, h18_⟩
            have n0_ : Aside0 (w15.heap[gb134]? = some (.cells #[.int .u64 a1_0, .int .u64 a1_1, .int .u64 a1_2] 38 (0, 0))) := ⟨h0_⟩
            have n1_ : Aside0 (w15.heap[gb135]? = some (.cells #[.int .u8 a2_0, .int .u8 a2_1, .int .u8 a2_2] 39 (0, 0))) := ⟨h1_⟩
            have n2_ : Aside0 (w15.heap[gb138]? = some (.cells #[.int .u64 0, .int .i64 0] 26 (0, 0))) := ⟨h2_⟩
            have n3_ : Aside0 (w15.heap[gb139]? = some (.cells #[.int .u64 0, .int .i64 0] 26 (0, 0))) := ⟨h3_⟩
            have n4_ : Aside0 (w.heap.size ≤ gb138) := ⟨h4_⟩
            have n5_ : Aside0 (w.heap.size ≤ gb138) := ⟨h5_⟩
            have n6_ : Aside0 (gb134 ≠ gb138) := ⟨h6_⟩
            have n7_ : Aside0 (gb138 ≠ gb134) := ⟨h7_⟩
            have n8_ : Aside0 (gb135 ≠ gb138) := ⟨h8_⟩
            have n9_ : Aside0 (gb138 ≠ gb135) := ⟨h9_⟩
            have n10_ : Aside0 (gb139 ≠ gb138) := ⟨h10_⟩
            have n11_ : Aside0 (gb138 ≠ gb139) := ⟨h11_⟩
            have n12_ : Aside0 (w.heap.size ≤ gb139) := ⟨h12_⟩
            have n13_ : Aside0 (w.heap.size ≤ gb139) := ⟨h13_⟩
            have n14_ : Aside0 (gb134 ≠ gb139) := ⟨h14_⟩
            have n15_ : Aside0 (gb139 ≠ gb134) := ⟨h15_⟩
            have n16_ : Aside0 (gb135 ≠ gb139) := ⟨h16_⟩
            have n17_ : Aside0 (gb139 ≠ gb135) := ⟨h17_⟩
            have n18_ : Aside0 (Below w.heap.size w w15) := ⟨h18_⟩
            clear BK134
            clear BK135
            clear HB
            clear h0_ h1_ h2_ h3_ h4_ h5_ h6_ h7_ h8_ h9_ h10_ h11_ h12_ h13_ h14_ h15_ h16_ h17_ h18_
            have BK134 := n0_
            have BK135 := n1_
            have BK138 := n2_
            have BK139 := n3_
            have GW138 := n4_
            have GE138 := n5_
            have NB134_138 := n6_
            have NB138_134 := n7_
            have NB135_138 := n8_
            have NB138_135 := n9_
            have NB139_138 := n10_
            have NB138_139 := n11_
            have GW139 := n12_
            have GE139 := n13_
            have NB134_139 := n14_
            have NB139_134 := n15_
            have NB135_139 := n16_
            have NB139_135 := n17_
            have HB := n18_
            clear n0_ n1_ n2_ n3_ n4_ n5_ n6_ n7_ n8_ n9_ n10_ n11_ n12_ n13_ n14_ n15_ n16_ n17_ n18_
            have hHeld : w15.cell? ⟨gb134, 0, none⟩ = some (.int .u64 a1_0) ∧ w15.cell? ⟨gb134, 1, none⟩ = some (.int .u64 a1_1) ∧ w15.cell? ⟨gb134, 2, none⟩ = some (.int .u64 a1_2) ∧ w15.cell? ⟨gb135, 0, none⟩ = some (.int .u8 a2_0) ∧ w15.cell? ⟨gb135, 1, none⟩ = some (.int .u8 a2_1) ∧ w15.cell? ⟨gb135, 2, none⟩ = some (.int .u8 a2_2) := hS_
            refine norm_ (a' := ?_) ?_ ?_
            rotate_left
            · simp only [putAll, Act.put, List.setIfInBounds_toArray, List.set_cons_zero, List.set_cons_succ]
              rfl
            refine one_ (i := 18) (N := some 8) #[true, true, true, true, true, true, true, true, true, true, true, true, true, true, true, true, true, true, true, true, true, false, false, false] rfl rfl (one_of HT_.out (by kernel_rfl)) (by decide) (fun K hK => ?_)
            refine box_step ?hg (N := 8) ?hd (cs := #[.int .u64 0, .int .i64 0]) (t := 26) ?hr ?_; (case hd => rfl); (case hg => rfl); (case hr => first | (go_simp; done) | (go_simp; rfl))
            intro gb137 hg w16 hbox hb
            have n0_ := Aside0.mk (blk_below (g := gb134) (o := .cells #[.int .u64 a1_0, .int .u64 a1_1, .int .u64 a1_2] 38 (0, 0)) (by (with_reducible repeat (first | refine blk_drewN ?_ _ | refine blk_drew ?_ | refine blk_alloc ?_ _)); exact BK134.out) hb)
            have n1_ := Aside0.mk (blk_below (g := gb135) (o := .cells #[.int .u8 a2_0, .int .u8 a2_1, .int .u8 a2_2] 39 (0, 0)) (by (with_reducible repeat (first | refine blk_drewN ?_ _ | refine blk_drew ?_ | refine blk_alloc ?_ _)); exact BK135.out) hb)
            have n2_ := Aside0.mk (blk_below (g := gb138) (o := .cells #[.int .u64 0, .int .i64 0] 26 (0, 0)) (by (with_reducible repeat (first | refine blk_drewN ?_ _ | refine blk_drew ?_ | refine blk_alloc ?_ _)); exact BK138.out) hb)
            have n3_ := Aside0.mk (blk_below (g := gb139) (o := .cells #[.int .u64 0, .int .i64 0] 26 (0, 0)) (by (with_reducible repeat (first | refine blk_drewN ?_ _ | refine blk_drew ?_ | refine blk_alloc ?_ _)); exact BK139.out) hb)
            have n4_ := Aside0.mk (below_step (by repeat (first | (with_reducible first | exact HB.out | apply below_alloc | apply pw_below_drewN | apply below_drew1 | refine below_set ?_ GE134.out | refine below_set ?_ GE135.out | refine below_set ?_ GE138.out | refine below_set ?_ GE139.out) | exact HB.out)) hb)
            have n5_ := Aside0.mk (hbox)
            have n6_ := Aside0.mk ((by rw [hg]; exact (below_size (by repeat (first | (with_reducible first | exact HB.out | apply below_alloc | apply pw_below_drewN | apply below_drew1 | refine below_set ?_ GE134.out | refine below_set ?_ GE135.out | refine below_set ?_ GE138.out | refine below_set ?_ GE139.out) | exact HB.out))) : w.heap.size ≤ gb137))
            have n7_ := Aside0.mk ((by rw [hg]; exact (below_size (by repeat (first | (with_reducible first | exact HB.out | apply below_alloc | apply pw_below_drewN | apply below_drew1 | refine below_set ?_ GE134.out | refine below_set ?_ GE135.out | refine below_set ?_ GE138.out | refine below_set ?_ GE139.out) | exact HB.out))) : w.heap.size ≤ gb137))
            have n8_ := Aside0.mk ((by rw [hg]; exact Nat.ne_of_lt (blk_lt (g := gb134) (o := .cells #[.int .u64 a1_0, .int .u64 a1_1, .int .u64 a1_2] 38 (0, 0)) (by (with_reducible repeat (first | refine blk_drewN ?_ _ | refine blk_drew ?_ | refine blk_alloc ?_ _)); exact BK134.out)) : gb134 ≠ gb137))
            have n9_ := Aside0.mk ((by rw [hg]; exact Nat.ne_of_gt (blk_lt (g := gb134) (o := .cells #[.int .u64 a1_0, .int .u64 a1_1, .int .u64 a1_2] 38 (0, 0)) (by (with_reducible repeat (first | refine blk_drewN ?_ _ | refine blk_drew ?_ | refine blk_alloc ?_ _)); exact BK134.out)) : gb137 ≠ gb134))
            have n10_ := Aside0.mk ((by rw [hg]; exact Nat.ne_of_lt (blk_lt (g := gb135) (o := .cells #[.int .u8 a2_0, .int .u8 a2_1, .int .u8 a2_2] 39 (0, 0)) (by (with_reducible repeat (first | refine blk_drewN ?_ _ | refine blk_drew ?_ | refine blk_alloc ?_ _)); exact BK135.out)) : gb135 ≠ gb137))
            have n11_ := Aside0.mk ((by rw [hg]; exact Nat.ne_of_gt (blk_lt (g := gb135) (o := .cells #[.int .u8 a2_0, .int .u8 a2_1, .int .u8 a2_2] 39 (0, 0)) (by (with_reducible repeat (first | refine blk_drewN ?_ _ | refine blk_drew ?_ | refine blk_alloc ?_ _)); exact BK135.out)) : gb137 ≠ gb135))
            have n12_ := Aside0.mk ((by rw [hg]; exact Nat.ne_of_lt (blk_lt (g := gb138) (o := .cells #[.int .u64 0, .int .i64 0] 26 (0, 0)) (by (with_reducible repeat (first | refine blk_drewN ?_ _ | refine blk_drew ?_ | refine blk_alloc ?_ _)); exact BK138.out)) : gb138 ≠ gb137))
            have n13_ := Aside0.mk ((by rw [hg]; exact Nat.ne_of_gt (blk_lt (g := gb138) (o := .cells #[.int .u64 0, .int .i64 0] 26 (0, 0)) (by (with_reducible repeat (first | refine blk_drewN ?_ _ | refine blk_drew ?_ | refine blk_alloc ?_ _)); exact BK138.out)) : gb137 ≠ gb138))
            have n14_ := Aside0.mk ((by rw [hg]; exact Nat.ne_of_lt (blk_lt (g := gb139) (o := .cells #[.int .u64 0, .int .i64 0] 26 (0, 0)) (by (with_reducible repeat (first | refine blk_drewN ?_ _ | refine blk_drew ?_ | refine blk_alloc ?_ _)); exact BK139.out)) : gb139 ≠ gb137))
            have n15_ := Aside0.mk ((by rw [hg]; exact Nat.ne_of_gt (blk_lt (g := gb139) (o := .cells #[.int .u64 0, .int .i64 0] 26 (0, 0)) (by (with_reducible repeat (first | refine blk_drewN ?_ _ | refine blk_drew ?_ | refine blk_alloc ?_ _)); exact BK139.out)) : gb137 ≠ gb139))
            clear BK134
            clear BK135
            clear BK138
            clear BK139
            clear HB
            have BK134 := n0_
            have BK135 := n1_
            have BK138 := n2_
            have BK139 := n3_
            have HB := n4_
            have BK137 := n5_
            have GW137 := n6_
            have GE137 := n7_
            have NB134_137 := n8_
            have NB137_134 := n9_
            have NB135_137 := n10_
            have NB137_135 := n11_
            have NB138_137 := n12_
            have NB137_138 := n13_
            have NB139_137 := n14_
            have NB137_139 := n15_
            clear n0_ n1_ n2_ n3_ n4_ n5_ n6_ n7_ n8_ n9_ n10_ n11_ n12_ n13_ n14_ n15_
            clear hb hbox hg
            refine hK.out _ _ ⟨(blk_cell BK134.out 0).trans rfl, (blk_cell BK134.out 1).trans rfl, (blk_cell BK134.out 2).trans rfl, (blk_cell BK135.out 0).trans rfl, (blk_cell BK135.out 1).trans rfl, (blk_cell BK135.out 2).trans rfl⟩ (fun hHeld => ?_)
            clear hK K
            refine norm_ (a' := ?_) ?_ ?_
            rotate_left
            · show Act.put _ (some 8) _ = _
              simp only [Act.put, List.setIfInBounds_toArray, List.set_cons_zero, List.set_cons_succ, i64_w, i32_w]
              rfl
            exact norm_ (by first | (simp only [putAll, Act.put, List.setIfInBounds_toArray, List.set_cons_zero, List.set_cons_succ]; done) | (simp only [putAll, Act.put, List.setIfInBounds_toArray, List.set_cons_zero, List.set_cons_succ]; rfl)) (hJ18_19_20 (gb137, gb138, gb139) _ ⟨hHeld, (by (with_reducible repeat (first | refine blk_drewN ?_ _ | refine blk_drew ?_ | refine blk_alloc ?_ _)); exact BK134.out), (by (with_reducible repeat (first | refine blk_drewN ?_ _ | refine blk_drew ?_ | refine blk_alloc ?_ _)); exact BK135.out), (by (with_reducible repeat (first | refine blk_drewN ?_ _ | refine blk_drew ?_ | refine blk_alloc ?_ _)); exact BK137.out), (by (with_reducible repeat (first | refine blk_drewN ?_ _ | refine blk_drew ?_ | refine blk_alloc ?_ _)); exact BK138.out), (by (with_reducible repeat (first | refine blk_drewN ?_ _ | refine blk_drew ?_ | refine blk_alloc ?_ _)); exact BK139.out), GW137.out, GE137.out, NB134_137.out, NB137_134.out, NB135_137.out, NB137_135.out, NB138_137.out, NB137_138.out, NB139_137.out, NB137_139.out, GW138.out, GE138.out, NB134_138.out, NB138_134.out, NB135_138.out, NB138_135.out, NB139_138.out, NB138_139.out, GW139.out, GE139.out, NB134_139.out, NB139_134.out, NB135_139.out, NB139_135.out, (by repeat (first | (with_reducible first | exact HB.out | apply below_alloc | apply pw_below_drewN | apply below_drew1 | refine below_set ?_ GE134.out | refine below_set ?_ GE135.out | refine below_set ?_ GE138.out | refine below_set ?_ GE139.out | refine below_set ?_ GE137.out) | exact HB.out))⟩)
        · skip
          rintro ⟨gb137, gb139⟩ w15 ⟨hS_, h0_, h1_, h2_, h3_, h4_, h5_, h6_, h7_, h8_, h9_, h10_, h11_, h12_, h13_, h14_, h15_, h16_, h17_, h18_⟩
          have n0_ : Aside0 (w15.heap[gb134]? = some (.cells #[.int .u64 a1_0, .int .u64 a1_1, .int .u64 a1_2] 38 (0, 0))) := ⟨h0_⟩
          have n1_ : Aside0 (w15.heap[gb135]? = some (.cells #[.int .u8 a2_0, .int .u8 a2_1, .int .u8 a2_2] 39 (0, 0))) := ⟨h1_⟩
          have n2_ : Aside0 (w15.heap[gb137]? = some (.cells #[.int .u64 0, .int .i64 0] 26 (0, 0))) := ⟨h2_⟩
          have n3_ : Aside0 (w15.heap[gb139]? = some (.cells #[.int .u64 0, .int .i64 0] 26 (0, 0))) := ⟨h3_⟩
          have n4_ : Aside0 (w.heap.size ≤ gb137) := ⟨h4_⟩
          have n5_ : Aside0 (w.heap.size ≤ gb137) := ⟨h5_⟩
          have n6_ : Aside0 (gb134 ≠ gb137) := ⟨h6_⟩
          have n7_ : Aside0 (gb137 ≠ gb134) := ⟨h7_⟩
          have n8_ : Aside0 (gb135 ≠ gb137) := ⟨h8_⟩
          have n9_ : Aside0 (gb137 ≠ gb135) := ⟨h9_⟩
          have n10_ : Aside0 (gb139 ≠ gb137) := ⟨h10_⟩
          have n11_ : Aside0 (gb137 ≠ gb139) := ⟨h11_⟩
          have n12_ : Aside0 (w.heap.size ≤ gb139) := ⟨h12_⟩
          have n13_ : Aside0 (w.heap.size ≤ gb139) := ⟨h13_⟩
          have n14_ : Aside0 (gb134 ≠ gb139) := ⟨h14_⟩
          have n15_ : Aside0 (gb139 ≠ gb134) := ⟨h15_⟩
          have n16_ : Aside0 (gb135 ≠ gb139) := ⟨h16_⟩
          have n17_ : Aside0 (gb139 ≠ gb135) := ⟨h17_⟩
          have n18_ : Aside0 (Below w.heap.size w w15) := ⟨h18_⟩
          clear BK134
          clear BK135
          clear HB
          clear h0_ h1_ h2_ h3_ h4_ h5_ h6_ h7_ h8_ h9_ h10_ h11_ h12_ h13_ h14_ h15_ h16_ h17_ h18_
          have BK134 := n0_
          have BK135 := n1_
          have BK137 := n2_
          have BK139 := n3_
          have GW137 := n4_
          have GE137 := n5_
          have NB134_137 := n6_
          have NB137_134 := n7_
          have NB135_137 := n8_
          have NB137_135 := n9_
          have NB139_137 := n10_
          have NB137_139 := n11_
          have GW139 := n12_
          have GE139 := n13_
          have NB134_139 := n14_
          have NB139_134 := n15_
          have NB135_139 := n16_
          have NB139_135 := n17_
          have HB := n18_
          clear n0_ n1_ n2_ n3_ n4_ n5_ n6_ n7_ n8_ n9_ n10_ n11_ n12_ n13_ n14_ n15_ n16_ n17_ n18_
          have hHeld : w15.cell? ⟨gb134, 0, none⟩ = some (.int .u64 a1_0) ∧ w15.cell? ⟨gb134, 1, none⟩ = some (.int .u64 a1_1) ∧ w15.cell? ⟨gb134, 2, none⟩ = some (.int .u64 a1_2) ∧ w15.cell? ⟨gb135, 0, none⟩ = some (.int .u8 a2_0) ∧ w15.cell? ⟨gb135, 1, none⟩ = some (.int .u8 a2_1) ∧ w15.cell? ⟨gb135, 2, none⟩ = some (.int .u8 a2_2) := hS_
          refine norm_ (a' := ?_) ?_ ?_
          rotate_left
          · simp only [putAll, Act.put, List.setIfInBounds_toArray, List.set_cons_zero, List.set_cons_succ]
            rfl
          refine one_ (i := 19) (N := some 9) #[true, true, true, true, true, true, true, true, true, true, true, true, true, true, true, true, true, true, true, true, true, false, false, false] rfl rfl (one_of HT_.out (by kernel_rfl)) (by decide) (fun K hK => ?_)
          refine box_step ?hg (N := 9) ?hd (cs := #[.int .u64 0, .int .i64 0]) (t := 26) ?hr ?_; (case hd => rfl); (case hg => rfl); (case hr => first | (go_simp; done) | (go_simp; rfl))
          intro gb138 hg w16 hbox hb
          have n0_ := Aside0.mk (blk_below (g := gb134) (o := .cells #[.int .u64 a1_0, .int .u64 a1_1, .int .u64 a1_2] 38 (0, 0)) (by (with_reducible repeat (first | refine blk_drewN ?_ _ | refine blk_drew ?_ | refine blk_alloc ?_ _)); exact BK134.out) hb)
          have n1_ := Aside0.mk (blk_below (g := gb135) (o := .cells #[.int .u8 a2_0, .int .u8 a2_1, .int .u8 a2_2] 39 (0, 0)) (by (with_reducible repeat (first | refine blk_drewN ?_ _ | refine blk_drew ?_ | refine blk_alloc ?_ _)); exact BK135.out) hb)
          have n2_ := Aside0.mk (blk_below (g := gb137) (o := .cells #[.int .u64 0, .int .i64 0] 26 (0, 0)) (by (with_reducible repeat (first | refine blk_drewN ?_ _ | refine blk_drew ?_ | refine blk_alloc ?_ _)); exact BK137.out) hb)
          have n3_ := Aside0.mk (blk_below (g := gb139) (o := .cells #[.int .u64 0, .int .i64 0] 26 (0, 0)) (by (with_reducible repeat (first | refine blk_drewN ?_ _ | refine blk_drew ?_ | refine blk_alloc ?_ _)); exact BK139.out) hb)
          have n4_ := Aside0.mk (below_step (by repeat (first | (with_reducible first | exact HB.out | apply below_alloc | apply pw_below_drewN | apply below_drew1 | refine below_set ?_ GE134.out | refine below_set ?_ GE135.out | refine below_set ?_ GE137.out | refine below_set ?_ GE139.out) | exact HB.out)) hb)
          have n5_ := Aside0.mk (hbox)
          have n6_ := Aside0.mk ((by rw [hg]; exact (below_size (by repeat (first | (with_reducible first | exact HB.out | apply below_alloc | apply pw_below_drewN | apply below_drew1 | refine below_set ?_ GE134.out | refine below_set ?_ GE135.out | refine below_set ?_ GE137.out | refine below_set ?_ GE139.out) | exact HB.out))) : w.heap.size ≤ gb138))
          have n7_ := Aside0.mk ((by rw [hg]; exact (below_size (by repeat (first | (with_reducible first | exact HB.out | apply below_alloc | apply pw_below_drewN | apply below_drew1 | refine below_set ?_ GE134.out | refine below_set ?_ GE135.out | refine below_set ?_ GE137.out | refine below_set ?_ GE139.out) | exact HB.out))) : w.heap.size ≤ gb138))
          have n8_ := Aside0.mk ((by rw [hg]; exact Nat.ne_of_lt (blk_lt (g := gb134) (o := .cells #[.int .u64 a1_0, .int .u64 a1_1, .int .u64 a1_2] 38 (0, 0)) (by (with_reducible repeat (first | refine blk_drewN ?_ _ | refine blk_drew ?_ | refine blk_alloc ?_ _)); exact BK134.out)) : gb134 ≠ gb138))
          have n9_ := Aside0.mk ((by rw [hg]; exact Nat.ne_of_gt (blk_lt (g := gb134) (o := .cells #[.int .u64 a1_0, .int .u64 a1_1, .int .u64 a1_2] 38 (0, 0)) (by (with_reducible repeat (first | refine blk_drewN ?_ _ | refine blk_drew ?_ | refine blk_alloc ?_ _)); exact BK134.out)) : gb138 ≠ gb134))
          have n10_ := Aside0.mk ((by rw [hg]; exact Nat.ne_of_lt (blk_lt (g := gb135) (o := .cells #[.int .u8 a2_0, .int .u8 a2_1, .int .u8 a2_2] 39 (0, 0)) (by (with_reducible repeat (first | refine blk_drewN ?_ _ | refine blk_drew ?_ | refine blk_alloc ?_ _)); exact BK135.out)) : gb135 ≠ gb138))
          have n11_ := Aside0.mk ((by rw [hg]; exact Nat.ne_of_gt (blk_lt (g := gb135) (o := .cells #[.int .u8 a2_0, .int .u8 a2_1, .int .u8 a2_2] 39 (0, 0)) (by (with_reducible repeat (first | refine blk_drewN ?_ _ | refine blk_drew ?_ | refine blk_alloc ?_ _)); exact BK135.out)) : gb138 ≠ gb135))
          have n12_ := Aside0.mk ((by rw [hg]; exact Nat.ne_of_lt (blk_lt (g := gb137) (o := .cells #[.int .u64 0, .int .i64 0] 26 (0, 0)) (by (with_reducible repeat (first | refine blk_drewN ?_ _ | refine blk_drew ?_ | refine blk_alloc ?_ _)); exact BK137.out)) : gb137 ≠ gb138))
          have n13_ := Aside0.mk ((by rw [hg]; exact Nat.ne_of_gt (blk_lt (g := gb137) (o := .cells #[.int .u64 0, .int .i64 0] 26 (0, 0)) (by (with_reducible repeat (first | refine blk_drewN ?_ _ | refine blk_drew ?_ | refine blk_alloc ?_ _)); exact BK137.out)) : gb138 ≠ gb137))
          have n14_ := Aside0.mk ((by rw [hg]; exact Nat.ne_of_lt (blk_lt (g := gb139) (o := .cells #[.int .u64 0, .int .i64 0] 26 (0, 0)) (by (with_reducible repeat (first | refine blk_drewN ?_ _ | refine blk_drew ?_ | refine blk_alloc ?_ _)); exact BK139.out)) : gb139 ≠ gb138))
          have n15_ := Aside0.mk ((by rw [hg]; exact Nat.ne_of_gt (blk_lt (g := gb139) (o := .cells #[.int .u64 0, .int .i64 0] 26 (0, 0)) (by (with_reducible repeat (first | refine blk_drewN ?_ _ | refine blk_drew ?_ | refine blk_alloc ?_ _)); exact BK139.out)) : gb138 ≠ gb139))
          clear BK134
          clear BK135
          clear BK137
          clear BK139
          clear HB
          have BK134 := n0_
          have BK135 := n1_
          have BK137 := n2_
          have BK139 := n3_
          have HB := n4_
          have BK138 := n5_
          have GW138 := n6_
          have GE138 := n7_
          have NB134_138 := n8_
          have NB138_134 := n9_
          have NB135_138 := n10_
          have NB138_135 := n11_
          have NB137_138 := n12_
          have NB138_137 := n13_
          have NB139_138 := n14_
          have NB138_139 := n15_
          clear n0_ n1_ n2_ n3_ n4_ n5_ n6_ n7_ n8_ n9_ n10_ n11_ n12_ n13_ n14_ n15_
          clear hb hbox hg
          refine hK.out _ _ ⟨(blk_cell BK134.out 0).trans rfl, (blk_cell BK134.out 1).trans rfl, (blk_cell BK134.out 2).trans rfl, (blk_cell BK135.out 0).trans rfl, (blk_cell BK135.out 1).trans rfl, (blk_cell BK135.out 2).trans rfl⟩ (fun hHeld => ?_)
          clear hK K
          refine norm_ (a' := ?_) ?_ ?_
          rotate_left
          · show Act.put _ (some 9) _ = _
            simp only [Act.put, List.setIfInBounds_toArray, List.set_cons_zero, List.set_cons_succ, i64_w, i32_w]
            rfl
          exact norm_ (by first | (simp only [putAll, Act.put, List.setIfInBounds_toArray, List.set_cons_zero, List.set_cons_succ]; done) | (simp only [putAll, Act.put, List.setIfInBounds_toArray, List.set_cons_zero, List.set_cons_succ]; rfl)) (hJ18_19_20 (gb137, gb138, gb139) _ ⟨hHeld, (by (with_reducible repeat (first | refine blk_drewN ?_ _ | refine blk_drew ?_ | refine blk_alloc ?_ _)); exact BK134.out), (by (with_reducible repeat (first | refine blk_drewN ?_ _ | refine blk_drew ?_ | refine blk_alloc ?_ _)); exact BK135.out), (by (with_reducible repeat (first | refine blk_drewN ?_ _ | refine blk_drew ?_ | refine blk_alloc ?_ _)); exact BK137.out), (by (with_reducible repeat (first | refine blk_drewN ?_ _ | refine blk_drew ?_ | refine blk_alloc ?_ _)); exact BK138.out), (by (with_reducible repeat (first | refine blk_drewN ?_ _ | refine blk_drew ?_ | refine blk_alloc ?_ _)); exact BK139.out), GW137.out, GE137.out, NB134_137.out, NB137_134.out, NB135_137.out, NB137_135.out, NB138_137.out, NB137_138.out, NB139_137.out, NB137_139.out, GW138.out, GE138.out, NB134_138.out, NB138_134.out, NB135_138.out, NB138_135.out, NB139_138.out, NB138_139.out, GW139.out, GE139.out, NB134_139.out, NB139_134.out, NB135_139.out, NB139_135.out, (by repeat (first | (with_reducible first | exact HB.out | apply below_alloc | apply pw_below_drewN | apply below_drew1 | refine below_set ?_ GE134.out | refine below_set ?_ GE135.out | refine below_set ?_ GE137.out | refine below_set ?_ GE139.out | refine below_set ?_ GE138.out) | exact HB.out))⟩)
      · skip
        rintro ⟨gb137, gb138⟩ w15 ⟨hS_, h0_, h1_, h2_, h3_, h4_, h5_, h6_, h7_, h8_, h9_, h10_, h11_, h12_, h13_, h14_, h15_, h16_, h17_, h18_⟩
        have n0_ : Aside0 (w15.heap[gb134]? = some (.cells #[.int .u64 a1_0, .int .u64 a1_1, .int .u64 a1_2] 38 (0, 0))) := ⟨h0_⟩
        have n1_ : Aside0 (w15.heap[gb135]? = some (.cells #[.int .u8 a2_0, .int .u8 a2_1, .int .u8 a2_2] 39 (0, 0))) := ⟨h1_⟩
        have n2_ : Aside0 (w15.heap[gb137]? = some (.cells #[.int .u64 0, .int .i64 0] 26 (0, 0))) := ⟨h2_⟩
        have n3_ : Aside0 (w15.heap[gb138]? = some (.cells #[.int .u64 0, .int .i64 0] 26 (0, 0))) := ⟨h3_⟩
        have n4_ : Aside0 (w.heap.size ≤ gb137) := ⟨h4_⟩
        have n5_ : Aside0 (w.heap.size ≤ gb137) := ⟨h5_⟩
        have n6_ : Aside0 (gb134 ≠ gb137) := ⟨h6_⟩
        have n7_ : Aside0 (gb137 ≠ gb134) := ⟨h7_⟩
        have n8_ : Aside0 (gb135 ≠ gb137) := ⟨h8_⟩
        have n9_ : Aside0 (gb137 ≠ gb135) := ⟨h9_⟩
        have n10_ : Aside0 (gb138 ≠ gb137) := ⟨h10_⟩
        have n11_ : Aside0 (gb137 ≠ gb138) := ⟨h11_⟩
        have n12_ : Aside0 (w.heap.size ≤ gb138) := ⟨h12_⟩
        have n13_ : Aside0 (w.heap.size ≤ gb138) := ⟨h13_⟩
        have n14_ : Aside0 (gb134 ≠ gb138) := ⟨h14_⟩
        have n15_ : Aside0 (gb138 ≠ gb134) := ⟨h15_⟩
        have n16_ : Aside0 (gb135 ≠ gb138) := ⟨h16_⟩
        have n17_ : Aside0 (gb138 ≠ gb135) := ⟨h17_⟩
        have n18_ : Aside0 (Below w.heap.size w w15) := ⟨h18_⟩
        clear BK134
        clear BK135
        clear HB
        clear h0_ h1_ h2_ h3_ h4_ h5_ h6_ h7_ h8_ h9_ h10_ h11_ h12_ h13_ h14_ h15_ h16_ h17_ h18_
        have BK134 := n0_
        have BK135 := n1_
        have BK137 := n2_
        have BK138 := n3_
        have GW137 := n4_
        have GE137 := n5_
        have NB134_137 := n6_
        have NB137_134 := n7_
        have NB135_137 := n8_
        have NB137_135 := n9_
        have NB138_137 := n10_
        have NB137_138 := n11_
        have GW138 := n12_
        have GE138 := n13_
        have NB134_138 := n14_
        have NB138_134 := n15_
        have NB135_138 := n16_
        have NB138_135 := n17_
        have HB := n18_
        clear n0_ n1_ n2_ n3_ n4_ n5_ n6_ n7_ n8_ n9_ n10_ n11_ n12_ n13_ n14_ n15_ n16_ n17_ n18_
        have hHeld : w15.cell? ⟨gb134, 0, none⟩ = some (.int .u64 a1_0) ∧ w15.cell? ⟨gb134, 1, none⟩ = some (.int .u64 a1_1) ∧ w15.cell? ⟨gb134, 2, none⟩ = some (.int .u64 a1_2) ∧ w15.cell? ⟨gb135, 0, none⟩ = some (.int .u8 a2_0) ∧ w15.cell? ⟨gb135, 1, none⟩ = some (.int .u8 a2_1) ∧ w15.cell? ⟨gb135, 2, none⟩ = some (.int .u8 a2_2) := hS_
        refine norm_ (a' := ?_) ?_ ?_
        rotate_left
        · simp only [putAll, Act.put, List.setIfInBounds_toArray, List.set_cons_zero, List.set_cons_succ]
          rfl
        refine one_ (i := 20) (N := some 10) #[true, true, true, true, true, true, true, true, true, true, true, true, true, true, true, true, true, true, true, true, true, false, false, false] rfl rfl (one_of HT_.out (by kernel_rfl)) (by decide) (fun K hK => ?_)
        refine box_step ?hg (N := 10) ?hd (cs := #[.int .u64 0, .int .i64 0]) (t := 26) ?hr ?_; (case hd => rfl); (case hg => rfl); (case hr => first | (go_simp; done) | (go_simp; rfl))
        intro gb139 hg w16 hbox hb
        have n0_ := Aside0.mk (blk_below (g := gb134) (o := .cells #[.int .u64 a1_0, .int .u64 a1_1, .int .u64 a1_2] 38 (0, 0)) (by (with_reducible repeat (first | refine blk_drewN ?_ _ | refine blk_drew ?_ | refine blk_alloc ?_ _)); exact BK134.out) hb)
        have n1_ := Aside0.mk (blk_below (g := gb135) (o := .cells #[.int .u8 a2_0, .int .u8 a2_1, .int .u8 a2_2] 39 (0, 0)) (by (with_reducible repeat (first | refine blk_drewN ?_ _ | refine blk_drew ?_ | refine blk_alloc ?_ _)); exact BK135.out) hb)
        have n2_ := Aside0.mk (blk_below (g := gb137) (o := .cells #[.int .u64 0, .int .i64 0] 26 (0, 0)) (by (with_reducible repeat (first | refine blk_drewN ?_ _ | refine blk_drew ?_ | refine blk_alloc ?_ _)); exact BK137.out) hb)
        have n3_ := Aside0.mk (blk_below (g := gb138) (o := .cells #[.int .u64 0, .int .i64 0] 26 (0, 0)) (by (with_reducible repeat (first | refine blk_drewN ?_ _ | refine blk_drew ?_ | refine blk_alloc ?_ _)); exact BK138.out) hb)
        have n4_ := Aside0.mk (below_step (by repeat (first | (with_reducible first | exact HB.out | apply below_alloc | apply pw_below_drewN | apply below_drew1 | refine below_set ?_ GE134.out | refine below_set ?_ GE135.out | refine below_set ?_ GE137.out | refine below_set ?_ GE138.out) | exact HB.out)) hb)
        have n5_ := Aside0.mk (hbox)
        have n6_ := Aside0.mk ((by rw [hg]; exact (below_size (by repeat (first | (with_reducible first | exact HB.out | apply below_alloc | apply pw_below_drewN | apply below_drew1 | refine below_set ?_ GE134.out | refine below_set ?_ GE135.out | refine below_set ?_ GE137.out | refine below_set ?_ GE138.out) | exact HB.out))) : w.heap.size ≤ gb139))
        have n7_ := Aside0.mk ((by rw [hg]; exact (below_size (by repeat (first | (with_reducible first | exact HB.out | apply below_alloc | apply pw_below_drewN | apply below_drew1 | refine below_set ?_ GE134.out | refine below_set ?_ GE135.out | refine below_set ?_ GE137.out | refine below_set ?_ GE138.out) | exact HB.out))) : w.heap.size ≤ gb139))
        have n8_ := Aside0.mk ((by rw [hg]; exact Nat.ne_of_lt (blk_lt (g := gb134) (o := .cells #[.int .u64 a1_0, .int .u64 a1_1, .int .u64 a1_2] 38 (0, 0)) (by (with_reducible repeat (first | refine blk_drewN ?_ _ | refine blk_drew ?_ | refine blk_alloc ?_ _)); exact BK134.out)) : gb134 ≠ gb139))
        have n9_ := Aside0.mk ((by rw [hg]; exact Nat.ne_of_gt (blk_lt (g := gb134) (o := .cells #[.int .u64 a1_0, .int .u64 a1_1, .int .u64 a1_2] 38 (0, 0)) (by (with_reducible repeat (first | refine blk_drewN ?_ _ | refine blk_drew ?_ | refine blk_alloc ?_ _)); exact BK134.out)) : gb139 ≠ gb134))
        have n10_ := Aside0.mk ((by rw [hg]; exact Nat.ne_of_lt (blk_lt (g := gb135) (o := .cells #[.int .u8 a2_0, .int .u8 a2_1, .int .u8 a2_2] 39 (0, 0)) (by (with_reducible repeat (first | refine blk_drewN ?_ _ | refine blk_drew ?_ | refine blk_alloc ?_ _)); exact BK135.out)) : gb135 ≠ gb139))
        have n11_ := Aside0.mk ((by rw [hg]; exact Nat.ne_of_gt (blk_lt (g := gb135) (o := .cells #[.int .u8 a2_0, .int .u8 a2_1, .int .u8 a2_2] 39 (0, 0)) (by (with_reducible repeat (first | refine blk_drewN ?_ _ | refine blk_drew ?_ | refine blk_alloc ?_ _)); exact BK135.out)) : gb139 ≠ gb135))
        have n12_ := Aside0.mk ((by rw [hg]; exact Nat.ne_of_lt (blk_lt (g := gb137) (o := .cells #[.int .u64 0, .int .i64 0] 26 (0, 0)) (by (with_reducible repeat (first | refine blk_drewN ?_ _ | refine blk_drew ?_ | refine blk_alloc ?_ _)); exact BK137.out)) : gb137 ≠ gb139))
        have n13_ := Aside0.mk ((by rw [hg]; exact Nat.ne_of_gt (blk_lt (g := gb137) (o := .cells #[.int .u64 0, .int .i64 0] 26 (0, 0)) (by (with_reducible repeat (first | refine blk_drewN ?_ _ | refine blk_drew ?_ | refine blk_alloc ?_ _)); exact BK137.out)) : gb139 ≠ gb137))
        have n14_ := Aside0.mk ((by rw [hg]; exact Nat.ne_of_lt (blk_lt (g := gb138) (o := .cells #[.int .u64 0, .int .i64 0] 26 (0, 0)) (by (with_reducible repeat (first | refine blk_drewN ?_ _ | refine blk_drew ?_ | refine blk_alloc ?_ _)); exact BK138.out)) : gb138 ≠ gb139))
        have n15_ := Aside0.mk ((by rw [hg]; exact Nat.ne_of_gt (blk_lt (g := gb138) (o := .cells #[.int .u64 0, .int .i64 0] 26 (0, 0)) (by (with_reducible repeat (first | refine blk_drewN ?_ _ | refine blk_drew ?_ | refine blk_alloc ?_ _)); exact BK138.out)) : gb139 ≠ gb138))
        clear BK134
        clear BK135
        clear BK137
        clear BK138
        clear HB
        have BK134 := n0_
        have BK135 := n1_
        have BK137 := n2_
        have BK138 := n3_
        have HB := n4_
        have BK139 := n5_
        have GW139 := n6_
        have GE139 := n7_
        have NB134_139 := n8_
        have NB139_134 := n9_
        have NB135_139 := n10_
        have NB139_135 := n11_
        have NB137_139 := n12_
        have NB139_137 := n13_
        have NB138_139 := n14_
        have NB139_138 := n15_
        clear n0_ n1_ n2_ n3_ n4_ n5_ n6_ n7_ n8_ n9_ n10_ n11_ n12_ n13_ n14_ n15_
        clear hb hbox hg
        refine hK.out _ _ ⟨(blk_cell BK134.out 0).trans rfl, (blk_cell BK134.out 1).trans rfl, (blk_cell BK134.out 2).trans rfl, (blk_cell BK135.out 0).trans rfl, (blk_cell BK135.out 1).trans rfl, (blk_cell BK135.out 2).trans rfl⟩ (fun hHeld => ?_)
        clear hK K
        refine norm_ (a' := ?_) ?_ ?_
        rotate_left
        · show Act.put _ (some 10) _ = _
          simp only [Act.put, List.setIfInBounds_toArray, List.set_cons_zero, List.set_cons_succ, i64_w, i32_w]
          rfl
        exact norm_ (by first | (simp only [putAll, Act.put, List.setIfInBounds_toArray, List.set_cons_zero, List.set_cons_succ]; done) | (simp only [putAll, Act.put, List.setIfInBounds_toArray, List.set_cons_zero, List.set_cons_succ]; rfl)) (hJ18_19_20 (gb137, gb138, gb139) _ ⟨hHeld, (by (with_reducible repeat (first | refine blk_drewN ?_ _ | refine blk_drew ?_ | refine blk_alloc ?_ _)); exact BK134.out), (by (with_reducible repeat (first | refine blk_drewN ?_ _ | refine blk_drew ?_ | refine blk_alloc ?_ _)); exact BK135.out), (by (with_reducible repeat (first | refine blk_drewN ?_ _ | refine blk_drew ?_ | refine blk_alloc ?_ _)); exact BK137.out), (by (with_reducible repeat (first | refine blk_drewN ?_ _ | refine blk_drew ?_ | refine blk_alloc ?_ _)); exact BK138.out), (by (with_reducible repeat (first | refine blk_drewN ?_ _ | refine blk_drew ?_ | refine blk_alloc ?_ _)); exact BK139.out), GW137.out, GE137.out, NB134_137.out, NB137_134.out, NB135_137.out, NB137_135.out, NB138_137.out, NB137_138.out, NB139_137.out, NB137_139.out, GW138.out, GE138.out, NB134_138.out, NB138_134.out, NB135_138.out, NB138_135.out, NB139_138.out, NB138_139.out, GW139.out, GE139.out, NB134_139.out, NB139_134.out, NB135_139.out, NB139_135.out, (by repeat (first | (with_reducible first | exact HB.out | apply below_alloc | apply pw_below_drewN | apply below_drew1 | refine below_set ?_ GE134.out | refine below_set ?_ GE135.out | refine below_set ?_ GE137.out | refine below_set ?_ GE138.out | refine below_set ?_ GE139.out) | exact HB.out))⟩)
    rintro ⟨gb137, gb138, gb139⟩ w16 ⟨hS_, h0_, h1_, h2_, h3_, h4_, h5_, h6_, h7_, h8_, h9_, h10_, h11_, h12_, h13_, h14_, h15_, h16_, h17_, h18_, h19_, h20_, h21_, h22_, h23_, h24_, h25_, h26_, h27_, h28_, h29_⟩
    have n0_ : Aside0 (w16.heap[gb134]? = some (.cells #[.int .u64 a1_0, .int .u64 a1_1, .int .u64 a1_2] 38 (0, 0))) := ⟨h0_⟩
    have n1_ : Aside0 (w16.heap[gb135]? = some (.cells #[.int .u8 a2_0, .int .u8 a2_1, .int .u8 a2_2] 39 (0, 0))) := ⟨h1_⟩
    have n2_ : Aside0 (w16.heap[gb137]? = some (.cells #[.int .u64 0, .int .i64 0] 26 (0, 0))) := ⟨h2_⟩
    have n3_ : Aside0 (w16.heap[gb138]? = some (.cells #[.int .u64 0, .int .i64 0] 26 (0, 0))) := ⟨h3_⟩
    have n4_ : Aside0 (w16.heap[gb139]? = some (.cells #[.int .u64 0, .int .i64 0] 26 (0, 0))) := ⟨h4_⟩
    have n5_ : Aside0 (w.heap.size ≤ gb137) := ⟨h5_⟩
    have n6_ : Aside0 (w.heap.size ≤ gb137) := ⟨h6_⟩
    have n7_ : Aside0 (gb134 ≠ gb137) := ⟨h7_⟩
    have n8_ : Aside0 (gb137 ≠ gb134) := ⟨h8_⟩
    have n9_ : Aside0 (gb135 ≠ gb137) := ⟨h9_⟩
    have n10_ : Aside0 (gb137 ≠ gb135) := ⟨h10_⟩
    have n11_ : Aside0 (gb138 ≠ gb137) := ⟨h11_⟩
    have n12_ : Aside0 (gb137 ≠ gb138) := ⟨h12_⟩
    have n13_ : Aside0 (gb139 ≠ gb137) := ⟨h13_⟩
    have n14_ : Aside0 (gb137 ≠ gb139) := ⟨h14_⟩
    have n15_ : Aside0 (w.heap.size ≤ gb138) := ⟨h15_⟩
    have n16_ : Aside0 (w.heap.size ≤ gb138) := ⟨h16_⟩
    have n17_ : Aside0 (gb134 ≠ gb138) := ⟨h17_⟩
    have n18_ : Aside0 (gb138 ≠ gb134) := ⟨h18_⟩
    have n19_ : Aside0 (gb135 ≠ gb138) := ⟨h19_⟩
    have n20_ : Aside0 (gb138 ≠ gb135) := ⟨h20_⟩
    have n21_ : Aside0 (gb139 ≠ gb138) := ⟨h21_⟩
    have n22_ : Aside0 (gb138 ≠ gb139) := ⟨h22_⟩
    have n23_ : Aside0 (w.heap.size ≤ gb139) := ⟨h23_⟩
    have n24_ : Aside0 (w.heap.size ≤ gb139) := ⟨h24_⟩
    have n25_ : Aside0 (gb134 ≠ gb139) := ⟨h25_⟩
    have n26_ : Aside0 (gb139 ≠ gb134) := ⟨h26_⟩
    have n27_ : Aside0 (gb135 ≠ gb139) := ⟨h27_⟩
    have n28_ : Aside0 (gb139 ≠ gb135) := ⟨h28_⟩
    have n29_ : Aside0 (Below w.heap.size w w16) := ⟨h29_⟩
    clear BK134
    clear BK135
    clear HB
    clear h0_ h1_ h2_ h3_ h4_ h5_ h6_ h7_ h8_ h9_ h10_ h11_ h12_ h13_ h14_ h15_ h16_ h17_ h18_ h19_ h20_ h21_ h22_ h23_ h24_ h25_ h26_ h27_ h28_ h29_
    have BK134 := n0_
    have BK135 := n1_
    have BK137 := n2_
    have BK138 := n3_
    have BK139 := n4_
    have GW137 := n5_
    have GE137 := n6_
    have NB134_137 := n7_
    have NB137_134 := n8_
    have NB135_137 := n9_
    have NB137_135 := n10_
    have NB138_137 := n11_
    have NB137_138 := n12_
    have NB139_137 := n13_
    have NB137_139 := n14_
    have GW138 := n15_
    have GE138 := n16_
    have NB134_138 := n17_
    have NB138_134 := n18_
    have NB135_138 := n19_
    have NB138_135 := n20_
    have NB139_138 := n21_
    have NB138_139 := n22_
    have GW139 := n23_
    have GE139 := n24_
    have NB134_139 := n25_
    have NB139_134 := n26_
    have NB135_139 := n27_
    have NB139_135 := n28_
    have HB := n29_
    clear n0_ n1_ n2_ n3_ n4_ n5_ n6_ n7_ n8_ n9_ n10_ n11_ n12_ n13_ n14_ n15_ n16_ n17_ n18_ n19_ n20_ n21_ n22_ n23_ n24_ n25_ n26_ n27_ n28_ n29_
    have hHeld : w16.cell? ⟨gb134, 0, none⟩ = some (.int .u64 a1_0) ∧ w16.cell? ⟨gb134, 1, none⟩ = some (.int .u64 a1_1) ∧ w16.cell? ⟨gb134, 2, none⟩ = some (.int .u64 a1_2) ∧ w16.cell? ⟨gb135, 0, none⟩ = some (.int .u8 a2_0) ∧ w16.cell? ⟨gb135, 1, none⟩ = some (.int .u8 a2_1) ∧ w16.cell? ⟨gb135, 2, none⟩ = some (.int .u8 a2_2) := hS_
    refine norm_ (a' := ?_) ?_ ?_
    rotate_left
    · simp only [putAll, Act.put, List.setIfInBounds_toArray, List.set_cons_zero, List.set_cons_succ]
      rfl
    refine one_ (i := 21) (N := none) #[true, true, true, true, true, true, true, true, true, true, true, true, true, true, true, true, true, true, true, true, true, true, false, false] rfl rfl (one_of HT_.out (by kernel_rfl)) (by decide) (fun K hK => ?_)
    have hs17 : w16.cell? ⟨gb137, 0, none⟩ = some (.int .u64 0) := (blk_cell BK137.out 0).trans rfl
    have hfs17 := blk_frozen BK137.out 0
    have hns17_0 := NB134_137.out
    have hns17_1 := NB135_137.out
    have hns17_3 := NB138_137.out
    have hns17_4 := NB139_137.out
    have hms17_0 := NB137_134.out
    have hms17_1 := NB137_135.out
    have hms17_3 := NB137_138.out
    have hms17_4 := NB137_139.out
    have hs18 : w16.cell? ⟨gb137, 1, none⟩ = some (.int .i64 0) := (blk_cell BK137.out 1).trans rfl
    have hfs18 := blk_frozen BK137.out 1
    have hns18_0 := NB134_137.out
    have hns18_1 := NB135_137.out
    have hns18_3 := NB138_137.out
    have hns18_4 := NB139_137.out
    have hms18_0 := NB137_134.out
    have hms18_1 := NB137_135.out
    have hms18_3 := NB137_138.out
    have hms18_4 := NB137_139.out
    refine skip_ (w1 := ?_) (by rfl) rfl ?_ ?_
    rotate_left
    · go_simp
      rfl
    refine hK.out _ _ ⟨((cell_far (p := ⟨gb137, _, none⟩) NB134_137.out _).trans (((cell_far (p := ⟨gb137, _, none⟩) NB134_137.out _).trans (hHeld.1)))), ((cell_far (p := ⟨gb137, _, none⟩) NB134_137.out _).trans (((cell_far (p := ⟨gb137, _, none⟩) NB134_137.out _).trans (hHeld.2.1)))), ((cell_far (p := ⟨gb137, _, none⟩) NB134_137.out _).trans (((cell_far (p := ⟨gb137, _, none⟩) NB134_137.out _).trans (hHeld.2.2.1)))), ((cell_far (p := ⟨gb137, _, none⟩) NB135_137.out _).trans (((cell_far (p := ⟨gb137, _, none⟩) NB135_137.out _).trans (hHeld.2.2.2.1)))), ((cell_far (p := ⟨gb137, _, none⟩) NB135_137.out _).trans (((cell_far (p := ⟨gb137, _, none⟩) NB135_137.out _).trans (hHeld.2.2.2.2.1)))), ((cell_far (p := ⟨gb137, _, none⟩) NB135_137.out _).trans (((cell_far (p := ⟨gb137, _, none⟩) NB135_137.out _).trans (hHeld.2.2.2.2.2))))⟩ (fun hHeld => ?_)
    clear hK K
    refine one_ (i := 22) (N := none) #[true, true, true, true, true, true, true, true, true, true, true, true, true, true, true, true, true, true, true, true, true, true, true, false] rfl rfl (one_of HT_.out (by kernel_rfl)) (by decide) (fun K hK => ?_)
    have hs19 : w16.cell? ⟨gb138, 0, none⟩ = some (.int .u64 0) := (blk_cell BK138.out 0).trans rfl
    have hfs19 := blk_frozen BK138.out 0
    have hns19_0 := NB134_138.out
    have hns19_1 := NB135_138.out
    have hns19_2 := NB137_138.out
    have hns19_4 := NB139_138.out
    have hms19_0 := NB138_134.out
    have hms19_1 := NB138_135.out
    have hms19_2 := NB138_137.out
    have hms19_4 := NB138_139.out
    have hs20 : w16.cell? ⟨gb138, 1, none⟩ = some (.int .i64 0) := (blk_cell BK138.out 1).trans rfl
    have hfs20 := blk_frozen BK138.out 1
    have hns20_0 := NB134_138.out
    have hns20_1 := NB135_138.out
    have hns20_2 := NB137_138.out
    have hns20_4 := NB139_138.out
    have hms20_0 := NB138_134.out
    have hms20_1 := NB138_135.out
    have hms20_2 := NB138_137.out
    have hms20_4 := NB138_139.out
    refine skip_ (w1 := ?_) (by rfl) rfl ?_ ?_
    rotate_left
    · go_simp
      rfl
    refine hK.out _ _ ⟨((cell_far (p := ⟨gb138, _, none⟩) NB134_138.out _).trans (((cell_far (p := ⟨gb138, _, none⟩) NB134_138.out _).trans (hHeld.1)))), ((cell_far (p := ⟨gb138, _, none⟩) NB134_138.out _).trans (((cell_far (p := ⟨gb138, _, none⟩) NB134_138.out _).trans (hHeld.2.1)))), ((cell_far (p := ⟨gb138, _, none⟩) NB134_138.out _).trans (((cell_far (p := ⟨gb138, _, none⟩) NB134_138.out _).trans (hHeld.2.2.1)))), ((cell_far (p := ⟨gb138, _, none⟩) NB135_138.out _).trans (((cell_far (p := ⟨gb138, _, none⟩) NB135_138.out _).trans (hHeld.2.2.2.1)))), ((cell_far (p := ⟨gb138, _, none⟩) NB135_138.out _).trans (((cell_far (p := ⟨gb138, _, none⟩) NB135_138.out _).trans (hHeld.2.2.2.2.1)))), ((cell_far (p := ⟨gb138, _, none⟩) NB135_138.out _).trans (((cell_far (p := ⟨gb138, _, none⟩) NB135_138.out _).trans (hHeld.2.2.2.2.2))))⟩ (fun hHeld => ?_)
    clear hK K
    refine one_ (i := 23) (N := none) #[true, true, true, true, true, true, true, true, true, true, true, true, true, true, true, true, true, true, true, true, true, true, true, true] rfl rfl (one_of HT_.out (by kernel_rfl)) (by decide) (fun K hK => ?_)
    have hs21 : w16.cell? ⟨gb139, 0, none⟩ = some (.int .u64 0) := (blk_cell BK139.out 0).trans rfl
    have hfs21 := blk_frozen BK139.out 0
    have hns21_0 := NB134_139.out
    have hns21_1 := NB135_139.out
    have hns21_2 := NB137_139.out
    have hns21_3 := NB138_139.out
    have hms21_0 := NB139_134.out
    have hms21_1 := NB139_135.out
    have hms21_2 := NB139_137.out
    have hms21_3 := NB139_138.out
    have hs22 : w16.cell? ⟨gb139, 1, none⟩ = some (.int .i64 0) := (blk_cell BK139.out 1).trans rfl
    have hfs22 := blk_frozen BK139.out 1
    have hns22_0 := NB134_139.out
    have hns22_1 := NB135_139.out
    have hns22_2 := NB137_139.out
    have hns22_3 := NB138_139.out
    have hms22_0 := NB139_134.out
    have hms22_1 := NB139_135.out
    have hms22_2 := NB139_137.out
    have hms22_3 := NB139_138.out
    refine skip_ (w1 := ?_) (by rfl) rfl ?_ ?_
    rotate_left
    · go_simp
      rfl
    refine hK.out _ _ ⟨((cell_far (p := ⟨gb139, _, none⟩) NB134_139.out _).trans (((cell_far (p := ⟨gb139, _, none⟩) NB134_139.out _).trans (hHeld.1)))), ((cell_far (p := ⟨gb139, _, none⟩) NB134_139.out _).trans (((cell_far (p := ⟨gb139, _, none⟩) NB134_139.out _).trans (hHeld.2.1)))), ((cell_far (p := ⟨gb139, _, none⟩) NB134_139.out _).trans (((cell_far (p := ⟨gb139, _, none⟩) NB134_139.out _).trans (hHeld.2.2.1)))), ((cell_far (p := ⟨gb139, _, none⟩) NB135_139.out _).trans (((cell_far (p := ⟨gb139, _, none⟩) NB135_139.out _).trans (hHeld.2.2.2.1)))), ((cell_far (p := ⟨gb139, _, none⟩) NB135_139.out _).trans (((cell_far (p := ⟨gb139, _, none⟩) NB135_139.out _).trans (hHeld.2.2.2.2.1)))), ((cell_far (p := ⟨gb139, _, none⟩) NB135_139.out _).trans (((cell_far (p := ⟨gb139, _, none⟩) NB135_139.out _).trans (hHeld.2.2.2.2.2))))⟩ (fun hHeld => ?_)
    clear hK K
    refine done_ (done_of HT_.out (by kernel_rfl)) ?_
    try go_wp2
    have n0_ : Aside0 (((((((w16.setCell ⟨gb137, 0, none⟩ (.int .u64 a1_0)).setCell ⟨gb137, 1, none⟩ (.int .i64 (wrap64 (a2_0)))).setCell ⟨gb138, 0, none⟩ (.int .u64 a1_1)).setCell ⟨gb138, 1, none⟩ (.int .i64 (wrap64 (a2_1)))).setCell ⟨gb139, 0, none⟩ (.int .u64 a1_2)).setCell ⟨gb139, 1, none⟩ (.int .i64 (wrap64 (a2_2)))).heap[gb134]? = some (.cells #[.int .u64 a1_0, .int .u64 a1_1, .int .u64 a1_2] 38 (0, 0))) := ⟨by (with_reducible repeat (first | refine blk_drewN ?_ _ | refine blk_drew ?_ | refine blk_alloc ?_ _)); refine blk_far ?_ NB134_139.out _; (with_reducible repeat (first | refine blk_drewN ?_ _ | refine blk_drew ?_ | refine blk_alloc ?_ _)); refine blk_far ?_ NB134_139.out _; (with_reducible repeat (first | refine blk_drewN ?_ _ | refine blk_drew ?_ | refine blk_alloc ?_ _)); refine blk_far ?_ NB134_138.out _; (with_reducible repeat (first | refine blk_drewN ?_ _ | refine blk_drew ?_ | refine blk_alloc ?_ _)); refine blk_far ?_ NB134_138.out _; (with_reducible repeat (first | refine blk_drewN ?_ _ | refine blk_drew ?_ | refine blk_alloc ?_ _)); refine blk_far ?_ NB134_137.out _; (with_reducible repeat (first | refine blk_drewN ?_ _ | refine blk_drew ?_ | refine blk_alloc ?_ _)); refine blk_far ?_ NB134_137.out _; (with_reducible repeat (first | refine blk_drewN ?_ _ | refine blk_drew ?_ | refine blk_alloc ?_ _)); exact BK134.out⟩
    have n1_ : Aside0 (((((((w16.setCell ⟨gb137, 0, none⟩ (.int .u64 a1_0)).setCell ⟨gb137, 1, none⟩ (.int .i64 (wrap64 (a2_0)))).setCell ⟨gb138, 0, none⟩ (.int .u64 a1_1)).setCell ⟨gb138, 1, none⟩ (.int .i64 (wrap64 (a2_1)))).setCell ⟨gb139, 0, none⟩ (.int .u64 a1_2)).setCell ⟨gb139, 1, none⟩ (.int .i64 (wrap64 (a2_2)))).heap[gb135]? = some (.cells #[.int .u8 a2_0, .int .u8 a2_1, .int .u8 a2_2] 39 (0, 0))) := ⟨by (with_reducible repeat (first | refine blk_drewN ?_ _ | refine blk_drew ?_ | refine blk_alloc ?_ _)); refine blk_far ?_ NB135_139.out _; (with_reducible repeat (first | refine blk_drewN ?_ _ | refine blk_drew ?_ | refine blk_alloc ?_ _)); refine blk_far ?_ NB135_139.out _; (with_reducible repeat (first | refine blk_drewN ?_ _ | refine blk_drew ?_ | refine blk_alloc ?_ _)); refine blk_far ?_ NB135_138.out _; (with_reducible repeat (first | refine blk_drewN ?_ _ | refine blk_drew ?_ | refine blk_alloc ?_ _)); refine blk_far ?_ NB135_138.out _; (with_reducible repeat (first | refine blk_drewN ?_ _ | refine blk_drew ?_ | refine blk_alloc ?_ _)); refine blk_far ?_ NB135_137.out _; (with_reducible repeat (first | refine blk_drewN ?_ _ | refine blk_drew ?_ | refine blk_alloc ?_ _)); refine blk_far ?_ NB135_137.out _; (with_reducible repeat (first | refine blk_drewN ?_ _ | refine blk_drew ?_ | refine blk_alloc ?_ _)); exact BK135.out⟩
    have n2_ : Aside0 (((((((w16.setCell ⟨gb137, 0, none⟩ (.int .u64 a1_0)).setCell ⟨gb137, 1, none⟩ (.int .i64 (wrap64 (a2_0)))).setCell ⟨gb138, 0, none⟩ (.int .u64 a1_1)).setCell ⟨gb138, 1, none⟩ (.int .i64 (wrap64 (a2_1)))).setCell ⟨gb139, 0, none⟩ (.int .u64 a1_2)).setCell ⟨gb139, 1, none⟩ (.int .i64 (wrap64 (a2_2)))).heap[gb137]? = some (.cells #[.int .u64 a1_0, .int .i64 (wrap64 (a2_0))] 26 (0, 0))) := ⟨by (with_reducible repeat (first | refine blk_drewN ?_ _ | refine blk_drew ?_ | refine blk_alloc ?_ _)); refine blk_far ?_ NB137_139.out _; (with_reducible repeat (first | refine blk_drewN ?_ _ | refine blk_drew ?_ | refine blk_alloc ?_ _)); refine blk_far ?_ NB137_139.out _; (with_reducible repeat (first | refine blk_drewN ?_ _ | refine blk_drew ?_ | refine blk_alloc ?_ _)); refine blk_far ?_ NB137_138.out _; (with_reducible repeat (first | refine blk_drewN ?_ _ | refine blk_drew ?_ | refine blk_alloc ?_ _)); refine blk_far ?_ NB137_138.out _; (with_reducible repeat (first | refine blk_drewN ?_ _ | refine blk_drew ?_ | refine blk_alloc ?_ _)); refine blk_put (cs := #[.int .u64 a1_0, .int .i64 0]) ?_ 1 _ rfl; (with_reducible repeat (first | refine blk_drewN ?_ _ | refine blk_drew ?_ | refine blk_alloc ?_ _)); refine blk_put (cs := #[.int .u64 0, .int .i64 0]) ?_ 0 _ rfl; (with_reducible repeat (first | refine blk_drewN ?_ _ | refine blk_drew ?_ | refine blk_alloc ?_ _)); exact BK137.out⟩
    have n3_ : Aside0 (((((((w16.setCell ⟨gb137, 0, none⟩ (.int .u64 a1_0)).setCell ⟨gb137, 1, none⟩ (.int .i64 (wrap64 (a2_0)))).setCell ⟨gb138, 0, none⟩ (.int .u64 a1_1)).setCell ⟨gb138, 1, none⟩ (.int .i64 (wrap64 (a2_1)))).setCell ⟨gb139, 0, none⟩ (.int .u64 a1_2)).setCell ⟨gb139, 1, none⟩ (.int .i64 (wrap64 (a2_2)))).heap[gb138]? = some (.cells #[.int .u64 a1_1, .int .i64 (wrap64 (a2_1))] 26 (0, 0))) := ⟨by (with_reducible repeat (first | refine blk_drewN ?_ _ | refine blk_drew ?_ | refine blk_alloc ?_ _)); refine blk_far ?_ NB138_139.out _; (with_reducible repeat (first | refine blk_drewN ?_ _ | refine blk_drew ?_ | refine blk_alloc ?_ _)); refine blk_far ?_ NB138_139.out _; (with_reducible repeat (first | refine blk_drewN ?_ _ | refine blk_drew ?_ | refine blk_alloc ?_ _)); refine blk_put (cs := #[.int .u64 a1_1, .int .i64 0]) ?_ 1 _ rfl; (with_reducible repeat (first | refine blk_drewN ?_ _ | refine blk_drew ?_ | refine blk_alloc ?_ _)); refine blk_put (cs := #[.int .u64 0, .int .i64 0]) ?_ 0 _ rfl; (with_reducible repeat (first | refine blk_drewN ?_ _ | refine blk_drew ?_ | refine blk_alloc ?_ _)); refine blk_far ?_ NB138_137.out _; (with_reducible repeat (first | refine blk_drewN ?_ _ | refine blk_drew ?_ | refine blk_alloc ?_ _)); refine blk_far ?_ NB138_137.out _; (with_reducible repeat (first | refine blk_drewN ?_ _ | refine blk_drew ?_ | refine blk_alloc ?_ _)); exact BK138.out⟩
    have n4_ : Aside0 (((((((w16.setCell ⟨gb137, 0, none⟩ (.int .u64 a1_0)).setCell ⟨gb137, 1, none⟩ (.int .i64 (wrap64 (a2_0)))).setCell ⟨gb138, 0, none⟩ (.int .u64 a1_1)).setCell ⟨gb138, 1, none⟩ (.int .i64 (wrap64 (a2_1)))).setCell ⟨gb139, 0, none⟩ (.int .u64 a1_2)).setCell ⟨gb139, 1, none⟩ (.int .i64 (wrap64 (a2_2)))).heap[gb139]? = some (.cells #[.int .u64 a1_2, .int .i64 (wrap64 (a2_2))] 26 (0, 0))) := ⟨by (with_reducible repeat (first | refine blk_drewN ?_ _ | refine blk_drew ?_ | refine blk_alloc ?_ _)); refine blk_put (cs := #[.int .u64 a1_2, .int .i64 0]) ?_ 1 _ rfl; (with_reducible repeat (first | refine blk_drewN ?_ _ | refine blk_drew ?_ | refine blk_alloc ?_ _)); refine blk_put (cs := #[.int .u64 0, .int .i64 0]) ?_ 0 _ rfl; (with_reducible repeat (first | refine blk_drewN ?_ _ | refine blk_drew ?_ | refine blk_alloc ?_ _)); refine blk_far ?_ NB139_138.out _; (with_reducible repeat (first | refine blk_drewN ?_ _ | refine blk_drew ?_ | refine blk_alloc ?_ _)); refine blk_far ?_ NB139_138.out _; (with_reducible repeat (first | refine blk_drewN ?_ _ | refine blk_drew ?_ | refine blk_alloc ?_ _)); refine blk_far ?_ NB139_137.out _; (with_reducible repeat (first | refine blk_drewN ?_ _ | refine blk_drew ?_ | refine blk_alloc ?_ _)); refine blk_far ?_ NB139_137.out _; (with_reducible repeat (first | refine blk_drewN ?_ _ | refine blk_drew ?_ | refine blk_alloc ?_ _)); exact BK139.out⟩
    have n5_ : Aside0 (Below w.heap.size w ((((((w16.setCell ⟨gb137, 0, none⟩ (.int .u64 a1_0)).setCell ⟨gb137, 1, none⟩ (.int .i64 (wrap64 (a2_0)))).setCell ⟨gb138, 0, none⟩ (.int .u64 a1_1)).setCell ⟨gb138, 1, none⟩ (.int .i64 (wrap64 (a2_1)))).setCell ⟨gb139, 0, none⟩ (.int .u64 a1_2)).setCell ⟨gb139, 1, none⟩ (.int .i64 (wrap64 (a2_2))))) := ⟨by repeat (first | (with_reducible first | exact HB.out | apply below_alloc | apply pw_below_drewN | apply below_drew1 | refine below_set ?_ GE134.out | refine below_set ?_ GE135.out | refine below_set ?_ GE137.out | refine below_set ?_ GE138.out | refine below_set ?_ GE139.out) | exact HB.out)⟩
    (try clear BK134)
    (try clear BK135)
    (try clear BK137)
    (try clear BK138)
    (try clear BK139)
    (try clear HB)
    generalize ((((((w16.setCell ⟨gb137, 0, none⟩ (.int .u64 a1_0)).setCell ⟨gb137, 1, none⟩ (.int .i64 (wrap64 (a2_0)))).setCell ⟨gb138, 0, none⟩ (.int .u64 a1_1)).setCell ⟨gb138, 1, none⟩ (.int .i64 (wrap64 (a2_1)))).setCell ⟨gb139, 0, none⟩ (.int .u64 a1_2)).setCell ⟨gb139, 1, none⟩ (.int .i64 (wrap64 (a2_2)))) = w23 at n0_ n1_ n2_ n3_ n4_ n5_ ⊢
    have BK134 := n0_
    have BK135 := n1_
    have BK137 := n2_
    have BK138 := n3_
    have BK139 := n4_
    have HB := n5_
    clear n0_ n1_ n2_ n3_ n4_ n5_
    have n0_ := Aside0.mk (blk_drew BK134.out)
    have n1_ := Aside0.mk (blk_drew BK135.out)
    have n2_ := Aside0.mk (blk_drew BK137.out)
    have n3_ := Aside0.mk (blk_drew BK138.out)
    have n4_ := Aside0.mk (blk_drew BK139.out)
    have n5_ := Aside0.mk (below_drew1 HB.out)
    clear BK134
    clear BK135
    clear BK137
    clear BK138
    clear BK139
    clear HB
    have BK134 := n0_
    have BK135 := n1_
    have BK137 := n2_
    have BK138 := n3_
    have BK139 := n4_
    have HB := n5_
    clear n0_ n1_ n2_ n3_ n4_ n5_
    refine start_ (n := 10) (S := fun w' => w'.cell? ⟨gb137, 0, none⟩ = some (.int .u64 a1_0) ∧ w'.cell? ⟨gb137, 1, none⟩ = some (.int .i64 (wrap64 (a2_0))) ∧ w'.cell? ⟨gb138, 0, none⟩ = some (.int .u64 a1_1) ∧ w'.cell? ⟨gb138, 1, none⟩ = some (.int .i64 (wrap64 (a2_1)))) (ds := []) #[false, false, false, false, false, false, false, false, false, false] (by kernel_rfl) rfl rfl ⟨(blk_cell BK137.out 0).trans rfl, (blk_cell BK137.out 1).trans rfl, (blk_cell BK138.out 0).trans rfl, (blk_cell BK138.out 1).trans rfl⟩ (fun hHeld => ?_); refine with_tabW turnspitlaw08_KeyOrder.tab5 turnspitlaw08_KeyOrder.bits5 (fun HT_ HW_ => ?_)
    generalize w23.drew = w24 at BK134 BK135 BK137 BK138 BK139 HB hHeld ⊢
    refine pure_ (i := 0) (N := some 34) (v := ?_) (a' := ?_) #[true, false, false, false, false, false, false, false, false, false] rfl rfl (any_of HT_.out (by kernel_rfl)) (fun _ _ _ h => h) (Or.inl ⟨by rfl, ?_⟩) ?_ ?_
    rotate_left
    · intro w'
      go_simp
      with_reducible rfl
    rotate_left
    · simp only [Act.put, List.setIfInBounds_toArray, List.set_cons_zero, List.set_cons_succ, i64_w, i32_w]
      rfl
    refine pure_ (i := 4) (N := some 38) (v := ?_) (a' := ?_) #[true, false, false, false, true, false, false, false, false, false] rfl rfl (any_of HT_.out (by kernel_rfl)) (fun _ _ _ h => h) (Or.inl ⟨by rfl, ?_⟩) ?_ ?_
    rotate_left
    · intro w'
      go_simp
      with_reducible rfl
    rotate_left
    · simp only [Act.put, List.setIfInBounds_toArray, List.set_cons_zero, List.set_cons_succ, i64_w, i32_w]
      rfl
    refine take_ (i := 1) (N := some 35) (v := ?_) (a' := ?_) #[true, true, false, false, true, false, false, false, false, false] rfl rfl (take_ofW HT_.out HW_.out (by kernel_rfl)) (fun _ _ _ h => h) (Or.inl ⟨by rfl, ?_⟩) hHeld ?_ ?_
    rotate_left
    · rintro w' ⟨s0, s1, s2, s3⟩
      go_simp
      with_reducible rfl
    rotate_left
    · simp only [Act.put, List.setIfInBounds_toArray, List.set_cons_zero, List.set_cons_succ, i64_w, i32_w]
      rfl
    refine take_ (i := 2) (N := some 36) (v := ?_) (a' := ?_) #[true, true, true, false, true, false, false, false, false, false] rfl rfl (take_ofW HT_.out HW_.out (by kernel_rfl)) (fun _ _ _ h => h) (Or.inl ⟨by rfl, ?_⟩) hHeld ?_ ?_
    rotate_left
    · rintro w' ⟨s0, s1, s2, s3⟩
      go_simp
      with_reducible rfl
    rotate_left
    · simp only [Act.put, List.setIfInBounds_toArray, List.set_cons_zero, List.set_cons_succ, i64_w, i32_w]
      rfl
    refine take_ (i := 5) (N := some 39) (v := ?_) (a' := ?_) #[true, true, true, false, true, true, false, false, false, false] rfl rfl (take_ofW HT_.out HW_.out (by kernel_rfl)) (fun _ _ _ h => h) (Or.inl ⟨by rfl, ?_⟩) hHeld ?_ ?_
    rotate_left
    · rintro w' ⟨s0, s1, s2, s3⟩
      go_simp
      with_reducible rfl
    rotate_left
    · simp only [Act.put, List.setIfInBounds_toArray, List.set_cons_zero, List.set_cons_succ, i64_w, i32_w]
      rfl
    refine take_ (i := 6) (N := some 40) (v := ?_) (a' := ?_) #[true, true, true, false, true, true, true, false, false, false] rfl rfl (take_ofW HT_.out HW_.out (by kernel_rfl)) (fun _ _ _ h => h) (Or.inl ⟨by rfl, ?_⟩) hHeld ?_ ?_
    rotate_left
    · rintro w' ⟨s0, s1, s2, s3⟩
      go_simp
      with_reducible rfl
    rotate_left
    · simp only [Act.put, List.setIfInBounds_toArray, List.set_cons_zero, List.set_cons_succ, i64_w, i32_w]
      rfl
    refine one_ (i := 3) (N := some 37) #[true, true, true, true, true, true, true, false, false, false] rfl rfl (one_of HT_.out (by kernel_rfl)) (by decide) (fun K hK => ?_)
    refine goes_ Try.func12 (by kernel_rfl) rfl #[.int .u64 a0, .agg #[.int .u64 a1_0, .int .i64 (wrap64 (a2_0))], .agg #[.int .u64 a1_1, .int .i64 (wrap64 (a2_1))]] (by rfl) rfl rfl (by (try simp only [List.map_toArray, List.map_cons, List.map_nil]); first | done | rfl | (simp only [List.length_drop, List.length_take]; rfl)) ?_
    with_reducible refine (key_Less.calls k a0 a1_0 (wrap64 (a2_0)) a1_1 (wrap64 (a2_1)) t140 _ A6.out).mono ?_
    rintro e w25 ⟨rfl, hb⟩
    refine ⟨_, rfl, ?_⟩
    have n0_ := Aside0.mk (blk_below (g := gb134) (o := .cells #[.int .u64 a1_0, .int .u64 a1_1, .int .u64 a1_2] 38 (0, 0)) (by (with_reducible repeat (first | refine blk_drewN ?_ _ | refine blk_drew ?_ | refine blk_alloc ?_ _)); exact BK134.out) hb)
    have n1_ := Aside0.mk (blk_below (g := gb135) (o := .cells #[.int .u8 a2_0, .int .u8 a2_1, .int .u8 a2_2] 39 (0, 0)) (by (with_reducible repeat (first | refine blk_drewN ?_ _ | refine blk_drew ?_ | refine blk_alloc ?_ _)); exact BK135.out) hb)
    have n2_ := Aside0.mk (blk_below (g := gb137) (o := .cells #[.int .u64 a1_0, .int .i64 (wrap64 (a2_0))] 26 (0, 0)) (by (with_reducible repeat (first | refine blk_drewN ?_ _ | refine blk_drew ?_ | refine blk_alloc ?_ _)); exact BK137.out) hb)
    have n3_ := Aside0.mk (blk_below (g := gb138) (o := .cells #[.int .u64 a1_1, .int .i64 (wrap64 (a2_1))] 26 (0, 0)) (by (with_reducible repeat (first | refine blk_drewN ?_ _ | refine blk_drew ?_ | refine blk_alloc ?_ _)); exact BK138.out) hb)
    have n4_ := Aside0.mk (blk_below (g := gb139) (o := .cells #[.int .u64 a1_2, .int .i64 (wrap64 (a2_2))] 26 (0, 0)) (by (with_reducible repeat (first | refine blk_drewN ?_ _ | refine blk_drew ?_ | refine blk_alloc ?_ _)); exact BK139.out) hb)
    have n5_ := Aside0.mk (below_step (by repeat (first | (with_reducible first | exact HB.out | apply below_alloc | apply pw_below_drewN | apply below_drew1 | refine below_set ?_ GE134.out | refine below_set ?_ GE135.out | refine below_set ?_ GE137.out | refine below_set ?_ GE138.out | refine below_set ?_ GE139.out) | exact HB.out)) hb)
    clear BK134
    clear BK135
    clear BK137
    clear BK138
    clear BK139
    clear HB
    have BK134 := n0_
    have BK135 := n1_
    have BK137 := n2_
    have BK138 := n3_
    have BK139 := n4_
    have HB := n5_
    clear n0_ n1_ n2_ n3_ n4_ n5_
    (try clear hb)
    (try clear hb2)
    (try clear hk)
    (try clear hi)
    refine hK.out _ _ ⟨(blk_cell BK137.out 0).trans rfl, (blk_cell BK137.out 1).trans rfl, (blk_cell BK138.out 0).trans rfl, (blk_cell BK138.out 1).trans rfl⟩ (fun hHeld => ?_)
    clear hK K
    refine norm_ (a' := ?_) ?_ ?_
    rotate_left
    · show Act.put _ (some 37) _ = _
      simp only [Act.put, List.setIfInBounds_toArray, List.set_cons_zero, List.set_cons_succ, i64_w, i32_w]
      rfl
    refine one_ (i := 7) (N := some 41) #[true, true, true, true, true, true, true, true, false, false] rfl rfl (one_of HT_.out (by kernel_rfl)) (by decide) (fun K hK => ?_)
    refine goes_ Try.func12 (by kernel_rfl) rfl #[.int .u64 a0, .agg #[.int .u64 a1_1, .int .i64 (wrap64 (a2_1))], .agg #[.int .u64 a1_0, .int .i64 (wrap64 (a2_0))]] (by rfl) rfl rfl (by (try simp only [List.map_toArray, List.map_cons, List.map_nil]); first | done | rfl | (simp only [List.length_drop, List.length_take]; rfl)) ?_
    with_reducible refine (key_Less.calls k a0 a1_1 (wrap64 (a2_1)) a1_0 (wrap64 (a2_0)) t141 _ A7.out).mono ?_
    rintro e w26 ⟨rfl, hb⟩
    refine ⟨_, rfl, ?_⟩
    have n0_ := Aside0.mk (blk_below (g := gb134) (o := .cells #[.int .u64 a1_0, .int .u64 a1_1, .int .u64 a1_2] 38 (0, 0)) (by (with_reducible repeat (first | refine blk_drewN ?_ _ | refine blk_drew ?_ | refine blk_alloc ?_ _)); exact BK134.out) hb)
    have n1_ := Aside0.mk (blk_below (g := gb135) (o := .cells #[.int .u8 a2_0, .int .u8 a2_1, .int .u8 a2_2] 39 (0, 0)) (by (with_reducible repeat (first | refine blk_drewN ?_ _ | refine blk_drew ?_ | refine blk_alloc ?_ _)); exact BK135.out) hb)
    have n2_ := Aside0.mk (blk_below (g := gb137) (o := .cells #[.int .u64 a1_0, .int .i64 (wrap64 (a2_0))] 26 (0, 0)) (by (with_reducible repeat (first | refine blk_drewN ?_ _ | refine blk_drew ?_ | refine blk_alloc ?_ _)); exact BK137.out) hb)
    have n3_ := Aside0.mk (blk_below (g := gb138) (o := .cells #[.int .u64 a1_1, .int .i64 (wrap64 (a2_1))] 26 (0, 0)) (by (with_reducible repeat (first | refine blk_drewN ?_ _ | refine blk_drew ?_ | refine blk_alloc ?_ _)); exact BK138.out) hb)
    have n4_ := Aside0.mk (blk_below (g := gb139) (o := .cells #[.int .u64 a1_2, .int .i64 (wrap64 (a2_2))] 26 (0, 0)) (by (with_reducible repeat (first | refine blk_drewN ?_ _ | refine blk_drew ?_ | refine blk_alloc ?_ _)); exact BK139.out) hb)
    have n5_ := Aside0.mk (below_step (by repeat (first | (with_reducible first | exact HB.out | apply below_alloc | apply pw_below_drewN | apply below_drew1 | refine below_set ?_ GE134.out | refine below_set ?_ GE135.out | refine below_set ?_ GE137.out | refine below_set ?_ GE138.out | refine below_set ?_ GE139.out) | exact HB.out)) hb)
    clear BK134
    clear BK135
    clear BK137
    clear BK138
    clear BK139
    clear HB
    have BK134 := n0_
    have BK135 := n1_
    have BK137 := n2_
    have BK138 := n3_
    have BK139 := n4_
    have HB := n5_
    clear n0_ n1_ n2_ n3_ n4_ n5_
    (try clear hb)
    (try clear hb2)
    (try clear hk)
    (try clear hi)
    refine hK.out _ _ ⟨(blk_cell BK137.out 0).trans rfl, (blk_cell BK137.out 1).trans rfl, (blk_cell BK138.out 0).trans rfl, (blk_cell BK138.out 1).trans rfl⟩ (fun hHeld => ?_)
    clear hK K
    refine norm_ (a' := ?_) ?_ ?_
    rotate_left
    · show Act.put _ (some 41) _ = _
      simp only [Act.put, List.setIfInBounds_toArray, List.set_cons_zero, List.set_cons_succ, i64_w, i32_w]
      rfl
    refine pure_ (i := 8) (N := some 11) (v := ?_) (a' := ?_) #[true, true, true, true, true, true, true, true, true, false] rfl rfl (any_of HT_.out (by kernel_rfl)) (fun _ _ _ h => h) (Or.inl ⟨by rfl, ?_⟩) ?_ ?_
    rotate_left
    · intro w'
      go_simp
      with_reducible rfl
    rotate_left
    · simp only [Act.put, List.setIfInBounds_toArray, List.set_cons_zero, List.set_cons_succ, i64_w, i32_w]
      rfl
    refine pure_ (i := 9) (N := some 12) (v := ?_) (a' := ?_) #[true, true, true, true, true, true, true, true, true, true] rfl rfl (any_of HT_.out (by kernel_rfl)) (fun _ _ _ h => h) (Or.inl ⟨by rfl, ?_⟩) ?_ ?_
    rotate_left
    · intro w'
      go_simp
      with_reducible rfl
    rotate_left
    · simp only [Act.put, List.setIfInBounds_toArray, List.set_cons_zero, List.set_cons_succ, i64_w, i32_w]
      rfl
    refine done_ (done_of HT_.out (by kernel_rfl)) ?_
    go_upto_region 6 with (fail)
    go_cut [61] (fun v61 wc => ∃ (kq : Nat) (x61_7 : Bool), v61 = .bool x61_7 ∧ Aside0 (turnspitlaw08_KeyOrder.j0 kq a0 true t140 x61_7 a1_0 (wrap64 (a2_0)) a1_1 (wrap64 (a2_1)) a1_2 (wrap64 (a2_2)) = some r) ∧ Aside0 (kq ≤ k) ∧ Aside0 (wc.heap[gb134]? = some (.cells #[.int .u64 a1_0, .int .u64 a1_1, .int .u64 a1_2] 38 (0, 0))) ∧ Aside0 (wc.heap[gb135]? = some (.cells #[.int .u8 a2_0, .int .u8 a2_1, .int .u8 a2_2] 39 (0, 0))) ∧ Aside0 (wc.heap[gb137]? = some (.cells #[.int .u64 a1_0, .int .i64 (wrap64 (a2_0))] 26 (0, 0))) ∧ Aside0 (wc.heap[gb138]? = some (.cells #[.int .u64 a1_1, .int .i64 (wrap64 (a2_1))] 26 (0, 0))) ∧ Aside0 (wc.heap[gb139]? = some (.cells #[.int .u64 a1_2, .int .i64 (wrap64 (a2_2))] 26 (0, 0))) ∧ Aside0 (Below w.heap.size w wc))
    case first =>
      have H := HC8.out
      clear HC8
      by_cases c27 : t140 = true
      · subst c27
        have H1 : (if t141 = true then (turnspitlaw08_KeyOrder.j0 k a0 true true true a1_0 (wrap64 (a2_0)) a1_1 (wrap64 (a2_1)) a1_2 (wrap64 (a2_2))) else (if (true == t141) = true then (if (!(a1_0 == a1_1) || (!((wrap64 (a2_0)) == (wrap64 (a2_1))))) = true then (turnspitlaw08_KeyOrder.j0 k a0 true true true a1_0 (wrap64 (a2_0)) a1_1 (wrap64 (a2_1)) a1_2 (wrap64 (a2_2))) else ((key_Less.f k a0 a1_0 (wrap64 (a2_0)) a1_0 (wrap64 (a2_0))).bind fun t142 => (turnspitlaw08_KeyOrder.j0 k a0 true true t142 a1_0 (wrap64 (a2_0)) a1_1 (wrap64 (a2_1)) a1_2 (wrap64 (a2_2))))) else ((key_Less.f k a0 a1_0 (wrap64 (a2_0)) a1_0 (wrap64 (a2_0))).bind fun t143 => (turnspitlaw08_KeyOrder.j0 k a0 true true t143 a1_0 (wrap64 (a2_0)) a1_1 (wrap64 (a2_1)) a1_2 (wrap64 (a2_2)))))) = some r := by first | (rw [if_pos rfl] at H; exact H) | (rw [if_pos trivial] at H; exact H)
        clear H
        have H := H1
        clear H1
        by_cases c28 : t141 = true
        · subst c28
          have H1 : (turnspitlaw08_KeyOrder.j0 k a0 true true true a1_0 (wrap64 (a2_0)) a1_1 (wrap64 (a2_1)) a1_2 (wrap64 (a2_2))) = some r := by first | (rw [if_pos rfl] at H; exact H) | (rw [if_pos trivial] at H; exact H)
          clear H
          have H := H1
          clear H1
          have H' := Aside0.mk H
          clear H
          go_wp2
          go_meet
          case rel => exact ⟨_, (true), (by first | rfl | (simp; done) | (simp [*]; done)), H', ⟨by first | omega | exact Nat.le_refl _⟩, ⟨by (with_reducible repeat (first | refine blk_drewN ?_ _ | refine blk_drew ?_ | refine blk_alloc ?_ _)); exact BK134.out⟩, ⟨by (with_reducible repeat (first | refine blk_drewN ?_ _ | refine blk_drew ?_ | refine blk_alloc ?_ _)); exact BK135.out⟩, ⟨by (with_reducible repeat (first | refine blk_drewN ?_ _ | refine blk_drew ?_ | refine blk_alloc ?_ _)); exact BK137.out⟩, ⟨by (with_reducible repeat (first | refine blk_drewN ?_ _ | refine blk_drew ?_ | refine blk_alloc ?_ _)); exact BK138.out⟩, ⟨by (with_reducible repeat (first | refine blk_drewN ?_ _ | refine blk_drew ?_ | refine blk_alloc ?_ _)); exact BK139.out⟩, ⟨by repeat (first | (with_reducible first | exact HB.out | apply below_alloc | apply pw_below_drewN | apply below_drew1 | refine below_set ?_ GE134.out | refine below_set ?_ GE135.out | refine below_set ?_ GE137.out | refine below_set ?_ GE138.out | refine below_set ?_ GE139.out) | exact HB.out)⟩⟩
        · replace c28 := Bool.eq_false_iff.mpr c28
          subst c28
          have H1 : (if (true == false) = true then (if (!(a1_0 == a1_1) || (!((wrap64 (a2_0)) == (wrap64 (a2_1))))) = true then (turnspitlaw08_KeyOrder.j0 k a0 true true true a1_0 (wrap64 (a2_0)) a1_1 (wrap64 (a2_1)) a1_2 (wrap64 (a2_2))) else ((key_Less.f k a0 a1_0 (wrap64 (a2_0)) a1_0 (wrap64 (a2_0))).bind fun t142 => (turnspitlaw08_KeyOrder.j0 k a0 true true t142 a1_0 (wrap64 (a2_0)) a1_1 (wrap64 (a2_1)) a1_2 (wrap64 (a2_2))))) else ((key_Less.f k a0 a1_0 (wrap64 (a2_0)) a1_0 (wrap64 (a2_0))).bind fun t143 => (turnspitlaw08_KeyOrder.j0 k a0 true true t143 a1_0 (wrap64 (a2_0)) a1_1 (wrap64 (a2_1)) a1_2 (wrap64 (a2_2))))) = some r := by first | (rw [if_neg (show ¬ (false = true) by decide)] at H; exact H) | (rw [if_neg (fun h => h)] at H; exact H)
          clear H
          have H := H1
          clear H1
          by_cases c29 : (true == false) = true
          · rw [if_pos c29] at H
            have c29b0 : (true == false) = true := c29
            (try (have c29b1 : decide (true = false) = true := by simpa using c29))
            (try (have c29b2 : (true == false) = true := by simpa using c29))
            clear c29
            (first | rw [c29b0] | (simp only [i64_w, i32_w]; rw [c29b0]) | skip)
            by_cases c30 : (!(a1_0 == a1_1) || (!((wrap64 (a2_0)) == (wrap64 (a2_1))))) = true
            · rw [if_pos c30] at H
              have c30b0 : (!(a1_0 == a1_1) || (!((wrap64 (a2_0)) == (wrap64 (a2_1))))) = true := c30
              clear c30
              have H' := Aside0.mk H
              clear H
              have hnb31 := NB137_134.out
              have hnc31 := NB134_137.out
              have hnb32 := NB137_135.out
              have hnc32 := NB135_137.out
              have hnb33 := NB137_138.out
              have hnc33 := NB138_137.out
              have hnb34 := NB137_139.out
              have hnc34 := NB139_137.out
              have hcz35_0 : w26.cell? ⟨gb137, 0, none⟩ = some (.int .u64 a1_0) := (blk_cell BK137.out 0).trans rfl
              have hcz35_1 : w26.cell? ⟨gb137, 1, none⟩ = some (.int .i64 (wrap64 (a2_0))) := (blk_cell BK137.out 1).trans rfl
              have hfz35_0 := blk_frozen BK137.out 0
              have hfz35_1 := blk_frozen BK137.out 1
              have hnb36 := NB138_134.out
              have hnc36 := NB134_138.out
              have hnb37 := NB138_135.out
              have hnc37 := NB135_138.out
              have hnb38 := NB138_139.out
              have hnc38 := NB139_138.out
              have hcz39_0 : w26.cell? ⟨gb138, 0, none⟩ = some (.int .u64 a1_1) := (blk_cell BK138.out 0).trans rfl
              have hcz39_1 : w26.cell? ⟨gb138, 1, none⟩ = some (.int .i64 (wrap64 (a2_1))) := (blk_cell BK138.out 1).trans rfl
              have hfz39_0 := blk_frozen BK138.out 0
              have hfz39_1 := blk_frozen BK138.out 1
              go_wp2
              go_meet
              case rel => exact ⟨_, (true), (by first | rfl | (simp; done) | (simp [*]; done)), H', ⟨by first | omega | exact Nat.le_refl _⟩, ⟨by (with_reducible repeat (first | refine blk_drewN ?_ _ | refine blk_drew ?_ | refine blk_alloc ?_ _)); exact BK134.out⟩, ⟨by (with_reducible repeat (first | refine blk_drewN ?_ _ | refine blk_drew ?_ | refine blk_alloc ?_ _)); exact BK135.out⟩, ⟨by (with_reducible repeat (first | refine blk_drewN ?_ _ | refine blk_drew ?_ | refine blk_alloc ?_ _)); exact BK137.out⟩, ⟨by (with_reducible repeat (first | refine blk_drewN ?_ _ | refine blk_drew ?_ | refine blk_alloc ?_ _)); exact BK138.out⟩, ⟨by (with_reducible repeat (first | refine blk_drewN ?_ _ | refine blk_drew ?_ | refine blk_alloc ?_ _)); exact BK139.out⟩, ⟨by repeat (first | (with_reducible first | exact HB.out | apply below_alloc | apply pw_below_drewN | apply below_drew1 | refine below_set ?_ GE134.out | refine below_set ?_ GE135.out | refine below_set ?_ GE137.out | refine below_set ?_ GE138.out | refine below_set ?_ GE139.out) | exact HB.out)⟩⟩
            · rw [if_neg c30] at H
              have c30b0 : (!(a1_0 == a1_1) || (!((wrap64 (a2_0)) == (wrap64 (a2_1))))) = false := by simpa using c30
              clear c30
              replace H := Option.bind_eq_some_iff.mp H
              obtain ⟨t142, A400, H⟩ := H
              replace H : (turnspitlaw08_KeyOrder.j0 k a0 true true t142 a1_0 (wrap64 (a2_0)) a1_1 (wrap64 (a2_1)) a1_2 (wrap64 (a2_2))) = some r := H
              have A40 := Aside0.mk A400
              clear A400
              have H' := Aside0.mk H
              clear H
              have hnb41 := NB137_134.out
              have hnc41 := NB134_137.out
              have hnb42 := NB137_135.out
              have hnc42 := NB135_137.out
              have hnb43 := NB137_138.out
              have hnc43 := NB138_137.out
              have hnb44 := NB137_139.out
              have hnc44 := NB139_137.out
              have hcz45_0 : w26.cell? ⟨gb137, 0, none⟩ = some (.int .u64 a1_0) := (blk_cell BK137.out 0).trans rfl
              have hcz45_1 : w26.cell? ⟨gb137, 1, none⟩ = some (.int .i64 (wrap64 (a2_0))) := (blk_cell BK137.out 1).trans rfl
              have hfz45_0 := blk_frozen BK137.out 0
              have hfz45_1 := blk_frozen BK137.out 1
              have hnb46 := NB138_134.out
              have hnc46 := NB134_138.out
              have hnb47 := NB138_135.out
              have hnc47 := NB135_138.out
              have hnb48 := NB138_139.out
              have hnc48 := NB139_138.out
              have hcz49_0 : w26.cell? ⟨gb138, 0, none⟩ = some (.int .u64 a1_1) := (blk_cell BK138.out 0).trans rfl
              have hcz49_1 : w26.cell? ⟨gb138, 1, none⟩ = some (.int .i64 (wrap64 (a2_1))) := (blk_cell BK138.out 1).trans rfl
              have hfz49_0 := blk_frozen BK138.out 0
              have hfz49_1 := blk_frozen BK138.out 1
              go_wp2_with (first | (go_at_call 12; (with_reducible refine (key_Less.calls k a0 a1_0 (wrap64 (a2_0)) a1_0 (wrap64 (a2_0)) t142 _ A40.out).mono ?_); rintro e w50 ⟨rfl, hb⟩; have n0_ := Aside0.mk (blk_below (g := gb134) (o := .cells #[.int .u64 a1_0, .int .u64 a1_1, .int .u64 a1_2] 38 (0, 0)) (by (with_reducible repeat (first | refine blk_drewN ?_ _ | refine blk_drew ?_ | refine blk_alloc ?_ _)); exact BK134.out) hb); have n1_ := Aside0.mk (blk_below (g := gb135) (o := .cells #[.int .u8 a2_0, .int .u8 a2_1, .int .u8 a2_2] 39 (0, 0)) (by (with_reducible repeat (first | refine blk_drewN ?_ _ | refine blk_drew ?_ | refine blk_alloc ?_ _)); exact BK135.out) hb); have n2_ := Aside0.mk (blk_below (g := gb137) (o := .cells #[.int .u64 a1_0, .int .i64 (wrap64 (a2_0))] 26 (0, 0)) (by (with_reducible repeat (first | refine blk_drewN ?_ _ | refine blk_drew ?_ | refine blk_alloc ?_ _)); exact BK137.out) hb); have n3_ := Aside0.mk (blk_below (g := gb138) (o := .cells #[.int .u64 a1_1, .int .i64 (wrap64 (a2_1))] 26 (0, 0)) (by (with_reducible repeat (first | refine blk_drewN ?_ _ | refine blk_drew ?_ | refine blk_alloc ?_ _)); exact BK138.out) hb); have n4_ := Aside0.mk (blk_below (g := gb139) (o := .cells #[.int .u64 a1_2, .int .i64 (wrap64 (a2_2))] 26 (0, 0)) (by (with_reducible repeat (first | refine blk_drewN ?_ _ | refine blk_drew ?_ | refine blk_alloc ?_ _)); exact BK139.out) hb); have n5_ := Aside0.mk (below_step (by repeat (first | (with_reducible first | exact HB.out | apply below_alloc | apply pw_below_drewN | apply below_drew1 | refine below_set ?_ GE134.out | refine below_set ?_ GE135.out | refine below_set ?_ GE137.out | refine below_set ?_ GE138.out | refine below_set ?_ GE139.out) | exact HB.out)) hb); clear BK134; clear BK135; clear BK137; clear BK138; clear BK139; clear HB; have BK134 := n0_; have BK135 := n1_; have BK137 := n2_; have BK138 := n3_; have BK139 := n4_; have HB := n5_; clear n0_ n1_ n2_ n3_ n4_ n5_; (try clear hb); (try clear hb2); (try clear hk); (try clear hi)))
              go_meet
              case rel => exact ⟨_, (t142), (by first | rfl | (simp; done) | (simp [*]; done)), H', ⟨by first | omega | exact Nat.le_refl _⟩, ⟨by (with_reducible repeat (first | refine blk_drewN ?_ _ | refine blk_drew ?_ | refine blk_alloc ?_ _)); exact BK134.out⟩, ⟨by (with_reducible repeat (first | refine blk_drewN ?_ _ | refine blk_drew ?_ | refine blk_alloc ?_ _)); exact BK135.out⟩, ⟨by (with_reducible repeat (first | refine blk_drewN ?_ _ | refine blk_drew ?_ | refine blk_alloc ?_ _)); exact BK137.out⟩, ⟨by (with_reducible repeat (first | refine blk_drewN ?_ _ | refine blk_drew ?_ | refine blk_alloc ?_ _)); exact BK138.out⟩, ⟨by (with_reducible repeat (first | refine blk_drewN ?_ _ | refine blk_drew ?_ | refine blk_alloc ?_ _)); exact BK139.out⟩, ⟨by repeat (first | (with_reducible first | exact HB.out | apply below_alloc | apply pw_below_drewN | apply below_drew1 | refine below_set ?_ GE134.out | refine below_set ?_ GE135.out | refine below_set ?_ GE137.out | refine below_set ?_ GE138.out | refine below_set ?_ GE139.out) | exact HB.out)⟩⟩
          · rw [if_neg c29] at H
            have c29b0 : (true == false) = false := by simpa using c29
            (try (have c29b1 : decide (true = false) = false := by simpa using c29))
            (try (have c29b2 : (true == false) = false := by simpa using c29))
            (try (have c29b3 : ¬ (true = false) := by simpa using c29))
            clear c29
            (first | rw [c29b0] | (simp only [i64_w, i32_w]; rw [c29b0]) | skip)
            replace H := Option.bind_eq_some_iff.mp H
            obtain ⟨t143, A510, H⟩ := H
            replace H : (turnspitlaw08_KeyOrder.j0 k a0 true true t143 a1_0 (wrap64 (a2_0)) a1_1 (wrap64 (a2_1)) a1_2 (wrap64 (a2_2))) = some r := H
            have A51 := Aside0.mk A510
            clear A510
            have H' := Aside0.mk H
            clear H
            have hnb52 := NB137_134.out
            have hnc52 := NB134_137.out
            have hnb53 := NB137_135.out
            have hnc53 := NB135_137.out
            have hnb54 := NB137_138.out
            have hnc54 := NB138_137.out
            have hnb55 := NB137_139.out
            have hnc55 := NB139_137.out
            have hcz56_0 : w26.cell? ⟨gb137, 0, none⟩ = some (.int .u64 a1_0) := (blk_cell BK137.out 0).trans rfl
            have hcz56_1 : w26.cell? ⟨gb137, 1, none⟩ = some (.int .i64 (wrap64 (a2_0))) := (blk_cell BK137.out 1).trans rfl
            have hfz56_0 := blk_frozen BK137.out 0
            have hfz56_1 := blk_frozen BK137.out 1
            go_wp2_with (first | (go_at_call 12; (with_reducible refine (key_Less.calls k a0 a1_0 (wrap64 (a2_0)) a1_0 (wrap64 (a2_0)) t143 _ A51.out).mono ?_); rintro e w57 ⟨rfl, hb⟩; have n0_ := Aside0.mk (blk_below (g := gb134) (o := .cells #[.int .u64 a1_0, .int .u64 a1_1, .int .u64 a1_2] 38 (0, 0)) (by (with_reducible repeat (first | refine blk_drewN ?_ _ | refine blk_drew ?_ | refine blk_alloc ?_ _)); exact BK134.out) hb); have n1_ := Aside0.mk (blk_below (g := gb135) (o := .cells #[.int .u8 a2_0, .int .u8 a2_1, .int .u8 a2_2] 39 (0, 0)) (by (with_reducible repeat (first | refine blk_drewN ?_ _ | refine blk_drew ?_ | refine blk_alloc ?_ _)); exact BK135.out) hb); have n2_ := Aside0.mk (blk_below (g := gb137) (o := .cells #[.int .u64 a1_0, .int .i64 (wrap64 (a2_0))] 26 (0, 0)) (by (with_reducible repeat (first | refine blk_drewN ?_ _ | refine blk_drew ?_ | refine blk_alloc ?_ _)); exact BK137.out) hb); have n3_ := Aside0.mk (blk_below (g := gb138) (o := .cells #[.int .u64 a1_1, .int .i64 (wrap64 (a2_1))] 26 (0, 0)) (by (with_reducible repeat (first | refine blk_drewN ?_ _ | refine blk_drew ?_ | refine blk_alloc ?_ _)); exact BK138.out) hb); have n4_ := Aside0.mk (blk_below (g := gb139) (o := .cells #[.int .u64 a1_2, .int .i64 (wrap64 (a2_2))] 26 (0, 0)) (by (with_reducible repeat (first | refine blk_drewN ?_ _ | refine blk_drew ?_ | refine blk_alloc ?_ _)); exact BK139.out) hb); have n5_ := Aside0.mk (below_step (by repeat (first | (with_reducible first | exact HB.out | apply below_alloc | apply pw_below_drewN | apply below_drew1 | refine below_set ?_ GE134.out | refine below_set ?_ GE135.out | refine below_set ?_ GE137.out | refine below_set ?_ GE138.out | refine below_set ?_ GE139.out) | exact HB.out)) hb); clear BK134; clear BK135; clear BK137; clear BK138; clear BK139; clear HB; have BK134 := n0_; have BK135 := n1_; have BK137 := n2_; have BK138 := n3_; have BK139 := n4_; have HB := n5_; clear n0_ n1_ n2_ n3_ n4_ n5_; (try clear hb); (try clear hb2); (try clear hk); (try clear hi)))
            go_meet
            case rel => exact ⟨_, (t143), (by first | rfl | (simp; done) | (simp [*]; done)), H', ⟨by first | omega | exact Nat.le_refl _⟩, ⟨by (with_reducible repeat (first | refine blk_drewN ?_ _ | refine blk_drew ?_ | refine blk_alloc ?_ _)); exact BK134.out⟩, ⟨by (with_reducible repeat (first | refine blk_drewN ?_ _ | refine blk_drew ?_ | refine blk_alloc ?_ _)); exact BK135.out⟩, ⟨by (with_reducible repeat (first | refine blk_drewN ?_ _ | refine blk_drew ?_ | refine blk_alloc ?_ _)); exact BK137.out⟩, ⟨by (with_reducible repeat (first | refine blk_drewN ?_ _ | refine blk_drew ?_ | refine blk_alloc ?_ _)); exact BK138.out⟩, ⟨by (with_reducible repeat (first | refine blk_drewN ?_ _ | refine blk_drew ?_ | refine blk_alloc ?_ _)); exact BK139.out⟩, ⟨by repeat (first | (with_reducible first | exact HB.out | apply below_alloc | apply pw_below_drewN | apply below_drew1 | refine below_set ?_ GE134.out | refine below_set ?_ GE135.out | refine below_set ?_ GE137.out | refine below_set ?_ GE138.out | refine below_set ?_ GE139.out) | exact HB.out)⟩⟩
      · replace c27 := Bool.eq_false_iff.mpr c27
        subst c27
        have H1 : (if (false == t141) = true then (if (!(a1_0 == a1_1) || (!((wrap64 (a2_0)) == (wrap64 (a2_1))))) = true then (turnspitlaw08_KeyOrder.j0 k a0 true false true a1_0 (wrap64 (a2_0)) a1_1 (wrap64 (a2_1)) a1_2 (wrap64 (a2_2))) else ((key_Less.f k a0 a1_0 (wrap64 (a2_0)) a1_0 (wrap64 (a2_0))).bind fun t144 => (turnspitlaw08_KeyOrder.j0 k a0 true false t144 a1_0 (wrap64 (a2_0)) a1_1 (wrap64 (a2_1)) a1_2 (wrap64 (a2_2))))) else ((key_Less.f k a0 a1_0 (wrap64 (a2_0)) a1_0 (wrap64 (a2_0))).bind fun t145 => (turnspitlaw08_KeyOrder.j0 k a0 true false t145 a1_0 (wrap64 (a2_0)) a1_1 (wrap64 (a2_1)) a1_2 (wrap64 (a2_2))))) = some r := by first | (rw [if_neg (show ¬ (false = true) by decide)] at H; exact H) | (rw [if_neg (fun h => h)] at H; exact H)
        clear H
        have H := H1
        clear H1
        by_cases c58 : (false == t141) = true
        · rw [if_pos c58] at H
          have c58b0 : (false == t141) = true := c58
          (try (have c58b1 : decide (false = t141) = true := by simpa using c58))
          (try (have c58b2 : (false == t141) = true := by simpa using c58))
          clear c58
          by_cases c59 : (!(a1_0 == a1_1) || (!((wrap64 (a2_0)) == (wrap64 (a2_1))))) = true
          · rw [if_pos c59] at H
            have c59b0 : (!(a1_0 == a1_1) || (!((wrap64 (a2_0)) == (wrap64 (a2_1))))) = true := c59
            clear c59
            have H' := Aside0.mk H
            clear H
            have hnb60 := NB137_134.out
            have hnc60 := NB134_137.out
            have hnb61 := NB137_135.out
            have hnc61 := NB135_137.out
            have hnb62 := NB137_138.out
            have hnc62 := NB138_137.out
            have hnb63 := NB137_139.out
            have hnc63 := NB139_137.out
            have hcz64_0 : w26.cell? ⟨gb137, 0, none⟩ = some (.int .u64 a1_0) := (blk_cell BK137.out 0).trans rfl
            have hcz64_1 : w26.cell? ⟨gb137, 1, none⟩ = some (.int .i64 (wrap64 (a2_0))) := (blk_cell BK137.out 1).trans rfl
            have hfz64_0 := blk_frozen BK137.out 0
            have hfz64_1 := blk_frozen BK137.out 1
            have hnb65 := NB138_134.out
            have hnc65 := NB134_138.out
            have hnb66 := NB138_135.out
            have hnc66 := NB135_138.out
            have hnb67 := NB138_139.out
            have hnc67 := NB139_138.out
            have hcz68_0 : w26.cell? ⟨gb138, 0, none⟩ = some (.int .u64 a1_1) := (blk_cell BK138.out 0).trans rfl
            have hcz68_1 : w26.cell? ⟨gb138, 1, none⟩ = some (.int .i64 (wrap64 (a2_1))) := (blk_cell BK138.out 1).trans rfl
            have hfz68_0 := blk_frozen BK138.out 0
            have hfz68_1 := blk_frozen BK138.out 1
            go_wp2
            go_meet
            case rel => exact ⟨_, (true), (by first | rfl | (simp; done) | (simp [*]; done)), H', ⟨by first | omega | exact Nat.le_refl _⟩, ⟨by (with_reducible repeat (first | refine blk_drewN ?_ _ | refine blk_drew ?_ | refine blk_alloc ?_ _)); exact BK134.out⟩, ⟨by (with_reducible repeat (first | refine blk_drewN ?_ _ | refine blk_drew ?_ | refine blk_alloc ?_ _)); exact BK135.out⟩, ⟨by (with_reducible repeat (first | refine blk_drewN ?_ _ | refine blk_drew ?_ | refine blk_alloc ?_ _)); exact BK137.out⟩, ⟨by (with_reducible repeat (first | refine blk_drewN ?_ _ | refine blk_drew ?_ | refine blk_alloc ?_ _)); exact BK138.out⟩, ⟨by (with_reducible repeat (first | refine blk_drewN ?_ _ | refine blk_drew ?_ | refine blk_alloc ?_ _)); exact BK139.out⟩, ⟨by repeat (first | (with_reducible first | exact HB.out | apply below_alloc | apply pw_below_drewN | apply below_drew1 | refine below_set ?_ GE134.out | refine below_set ?_ GE135.out | refine below_set ?_ GE137.out | refine below_set ?_ GE138.out | refine below_set ?_ GE139.out) | exact HB.out)⟩⟩
          · rw [if_neg c59] at H
            have c59b0 : (!(a1_0 == a1_1) || (!((wrap64 (a2_0)) == (wrap64 (a2_1))))) = false := by simpa using c59
            clear c59
            replace H := Option.bind_eq_some_iff.mp H
            obtain ⟨t144, A690, H⟩ := H
            replace H : (turnspitlaw08_KeyOrder.j0 k a0 true false t144 a1_0 (wrap64 (a2_0)) a1_1 (wrap64 (a2_1)) a1_2 (wrap64 (a2_2))) = some r := H
            have A69 := Aside0.mk A690
            clear A690
            have H' := Aside0.mk H
            clear H
            have hnb70 := NB137_134.out
            have hnc70 := NB134_137.out
            have hnb71 := NB137_135.out
            have hnc71 := NB135_137.out
            have hnb72 := NB137_138.out
            have hnc72 := NB138_137.out
            have hnb73 := NB137_139.out
            have hnc73 := NB139_137.out
            have hcz74_0 : w26.cell? ⟨gb137, 0, none⟩ = some (.int .u64 a1_0) := (blk_cell BK137.out 0).trans rfl
            have hcz74_1 : w26.cell? ⟨gb137, 1, none⟩ = some (.int .i64 (wrap64 (a2_0))) := (blk_cell BK137.out 1).trans rfl
            have hfz74_0 := blk_frozen BK137.out 0
            have hfz74_1 := blk_frozen BK137.out 1
            have hnb75 := NB138_134.out
            have hnc75 := NB134_138.out
            have hnb76 := NB138_135.out
            have hnc76 := NB135_138.out
            have hnb77 := NB138_139.out
            have hnc77 := NB139_138.out
            have hcz78_0 : w26.cell? ⟨gb138, 0, none⟩ = some (.int .u64 a1_1) := (blk_cell BK138.out 0).trans rfl
            have hcz78_1 : w26.cell? ⟨gb138, 1, none⟩ = some (.int .i64 (wrap64 (a2_1))) := (blk_cell BK138.out 1).trans rfl
            have hfz78_0 := blk_frozen BK138.out 0
            have hfz78_1 := blk_frozen BK138.out 1
            go_wp2_with (first | (go_at_call 12; (with_reducible refine (key_Less.calls k a0 a1_0 (wrap64 (a2_0)) a1_0 (wrap64 (a2_0)) t144 _ A69.out).mono ?_); rintro e w79 ⟨rfl, hb⟩; have n0_ := Aside0.mk (blk_below (g := gb134) (o := .cells #[.int .u64 a1_0, .int .u64 a1_1, .int .u64 a1_2] 38 (0, 0)) (by (with_reducible repeat (first | refine blk_drewN ?_ _ | refine blk_drew ?_ | refine blk_alloc ?_ _)); exact BK134.out) hb); have n1_ := Aside0.mk (blk_below (g := gb135) (o := .cells #[.int .u8 a2_0, .int .u8 a2_1, .int .u8 a2_2] 39 (0, 0)) (by (with_reducible repeat (first | refine blk_drewN ?_ _ | refine blk_drew ?_ | refine blk_alloc ?_ _)); exact BK135.out) hb); have n2_ := Aside0.mk (blk_below (g := gb137) (o := .cells #[.int .u64 a1_0, .int .i64 (wrap64 (a2_0))] 26 (0, 0)) (by (with_reducible repeat (first | refine blk_drewN ?_ _ | refine blk_drew ?_ | refine blk_alloc ?_ _)); exact BK137.out) hb); have n3_ := Aside0.mk (blk_below (g := gb138) (o := .cells #[.int .u64 a1_1, .int .i64 (wrap64 (a2_1))] 26 (0, 0)) (by (with_reducible repeat (first | refine blk_drewN ?_ _ | refine blk_drew ?_ | refine blk_alloc ?_ _)); exact BK138.out) hb); have n4_ := Aside0.mk (blk_below (g := gb139) (o := .cells #[.int .u64 a1_2, .int .i64 (wrap64 (a2_2))] 26 (0, 0)) (by (with_reducible repeat (first | refine blk_drewN ?_ _ | refine blk_drew ?_ | refine blk_alloc ?_ _)); exact BK139.out) hb); have n5_ := Aside0.mk (below_step (by repeat (first | (with_reducible first | exact HB.out | apply below_alloc | apply pw_below_drewN | apply below_drew1 | refine below_set ?_ GE134.out | refine below_set ?_ GE135.out | refine below_set ?_ GE137.out | refine below_set ?_ GE138.out | refine below_set ?_ GE139.out) | exact HB.out)) hb); clear BK134; clear BK135; clear BK137; clear BK138; clear BK139; clear HB; have BK134 := n0_; have BK135 := n1_; have BK137 := n2_; have BK138 := n3_; have BK139 := n4_; have HB := n5_; clear n0_ n1_ n2_ n3_ n4_ n5_; (try clear hb); (try clear hb2); (try clear hk); (try clear hi)))
            go_meet
            case rel => exact ⟨_, (t144), (by first | rfl | (simp; done) | (simp [*]; done)), H', ⟨by first | omega | exact Nat.le_refl _⟩, ⟨by (with_reducible repeat (first | refine blk_drewN ?_ _ | refine blk_drew ?_ | refine blk_alloc ?_ _)); exact BK134.out⟩, ⟨by (with_reducible repeat (first | refine blk_drewN ?_ _ | refine blk_drew ?_ | refine blk_alloc ?_ _)); exact BK135.out⟩, ⟨by (with_reducible repeat (first | refine blk_drewN ?_ _ | refine blk_drew ?_ | refine blk_alloc ?_ _)); exact BK137.out⟩, ⟨by (with_reducible repeat (first | refine blk_drewN ?_ _ | refine blk_drew ?_ | refine blk_alloc ?_ _)); exact BK138.out⟩, ⟨by (with_reducible repeat (first | refine blk_drewN ?_ _ | refine blk_drew ?_ | refine blk_alloc ?_ _)); exact BK139.out⟩, ⟨by repeat (first | (with_reducible first | exact HB.out | apply below_alloc | apply pw_below_drewN | apply below_drew1 | refine below_set ?_ GE134.out | refine below_set ?_ GE135.out | refine below_set ?_ GE137.out | refine below_set ?_ GE138.out | refine below_set ?_ GE139.out) | exact HB.out)⟩⟩
        · rw [if_neg c58] at H
          have c58b0 : (false == t141) = false := by simpa using c58
          (try (have c58b1 : decide (false = t141) = false := by simpa using c58))
          (try (have c58b2 : (false == t141) = false := by simpa using c58))
          (try (have c58b3 : ¬ (false = t141) := by simpa using c58))
          clear c58
          replace H := Option.bind_eq_some_iff.mp H
          obtain ⟨t145, A800, H⟩ := H
          replace H : (turnspitlaw08_KeyOrder.j0 k a0 true false t145 a1_0 (wrap64 (a2_0)) a1_1 (wrap64 (a2_1)) a1_2 (wrap64 (a2_2))) = some r := H
          have A80 := Aside0.mk A800
          clear A800
          have H' := Aside0.mk H
          clear H
          have hnb81 := NB137_134.out
          have hnc81 := NB134_137.out
          have hnb82 := NB137_135.out
          have hnc82 := NB135_137.out
          have hnb83 := NB137_138.out
          have hnc83 := NB138_137.out
          have hnb84 := NB137_139.out
          have hnc84 := NB139_137.out
          have hcz85_0 : w26.cell? ⟨gb137, 0, none⟩ = some (.int .u64 a1_0) := (blk_cell BK137.out 0).trans rfl
          have hcz85_1 : w26.cell? ⟨gb137, 1, none⟩ = some (.int .i64 (wrap64 (a2_0))) := (blk_cell BK137.out 1).trans rfl
          have hfz85_0 := blk_frozen BK137.out 0
          have hfz85_1 := blk_frozen BK137.out 1
          go_wp2_with (first | (go_at_call 12; (with_reducible refine (key_Less.calls k a0 a1_0 (wrap64 (a2_0)) a1_0 (wrap64 (a2_0)) t145 _ A80.out).mono ?_); rintro e w86 ⟨rfl, hb⟩; have n0_ := Aside0.mk (blk_below (g := gb134) (o := .cells #[.int .u64 a1_0, .int .u64 a1_1, .int .u64 a1_2] 38 (0, 0)) (by (with_reducible repeat (first | refine blk_drewN ?_ _ | refine blk_drew ?_ | refine blk_alloc ?_ _)); exact BK134.out) hb); have n1_ := Aside0.mk (blk_below (g := gb135) (o := .cells #[.int .u8 a2_0, .int .u8 a2_1, .int .u8 a2_2] 39 (0, 0)) (by (with_reducible repeat (first | refine blk_drewN ?_ _ | refine blk_drew ?_ | refine blk_alloc ?_ _)); exact BK135.out) hb); have n2_ := Aside0.mk (blk_below (g := gb137) (o := .cells #[.int .u64 a1_0, .int .i64 (wrap64 (a2_0))] 26 (0, 0)) (by (with_reducible repeat (first | refine blk_drewN ?_ _ | refine blk_drew ?_ | refine blk_alloc ?_ _)); exact BK137.out) hb); have n3_ := Aside0.mk (blk_below (g := gb138) (o := .cells #[.int .u64 a1_1, .int .i64 (wrap64 (a2_1))] 26 (0, 0)) (by (with_reducible repeat (first | refine blk_drewN ?_ _ | refine blk_drew ?_ | refine blk_alloc ?_ _)); exact BK138.out) hb); have n4_ := Aside0.mk (blk_below (g := gb139) (o := .cells #[.int .u64 a1_2, .int .i64 (wrap64 (a2_2))] 26 (0, 0)) (by (with_reducible repeat (first | refine blk_drewN ?_ _ | refine blk_drew ?_ | refine blk_alloc ?_ _)); exact BK139.out) hb); have n5_ := Aside0.mk (below_step (by repeat (first | (with_reducible first | exact HB.out | apply below_alloc | apply pw_below_drewN | apply below_drew1 | refine below_set ?_ GE134.out | refine below_set ?_ GE135.out | refine below_set ?_ GE137.out | refine below_set ?_ GE138.out | refine below_set ?_ GE139.out) | exact HB.out)) hb); clear BK134; clear BK135; clear BK137; clear BK138; clear BK139; clear HB; have BK134 := n0_; have BK135 := n1_; have BK137 := n2_; have BK138 := n3_; have BK139 := n4_; have HB := n5_; clear n0_ n1_ n2_ n3_ n4_ n5_; (try clear hb); (try clear hb2); (try clear hk); (try clear hi)))
          go_meet
          case rel => exact ⟨_, (t145), (by first | rfl | (simp; done) | (simp [*]; done)), H', ⟨by first | omega | exact Nat.le_refl _⟩, ⟨by (with_reducible repeat (first | refine blk_drewN ?_ _ | refine blk_drew ?_ | refine blk_alloc ?_ _)); exact BK134.out⟩, ⟨by (with_reducible repeat (first | refine blk_drewN ?_ _ | refine blk_drew ?_ | refine blk_alloc ?_ _)); exact BK135.out⟩, ⟨by (with_reducible repeat (first | refine blk_drewN ?_ _ | refine blk_drew ?_ | refine blk_alloc ?_ _)); exact BK137.out⟩, ⟨by (with_reducible repeat (first | refine blk_drewN ?_ _ | refine blk_drew ?_ | refine blk_alloc ?_ _)); exact BK138.out⟩, ⟨by (with_reducible repeat (first | refine blk_drewN ?_ _ | refine blk_drew ?_ | refine blk_alloc ?_ _)); exact BK139.out⟩, ⟨by repeat (first | (with_reducible first | exact HB.out | apply below_alloc | apply pw_below_drewN | apply below_drew1 | refine below_set ?_ GE134.out | refine below_set ?_ GE135.out | refine below_set ?_ GE137.out | refine below_set ?_ GE138.out | refine below_set ?_ GE139.out) | exact HB.out)⟩⟩
    case rest =>
      clear HC8
      try clear c1
      try clear c2
      try clear p2
      try clear c3
      try clear c4
      try clear c5
      try clear c6
      try clear p6
      try clear c7
      try clear c8
      try clear c12
      try clear c27
      try clear c28
      try clear c29
      try clear c29b0
      try clear c29b1
      try clear c29b2
      try clear c30
      try clear c30b0
      try clear c31
      try clear c32
      try clear c33
      try clear c34
      try clear c36
      try clear c37
      try clear c38
      try clear c41
      try clear c42
      try clear c43
      try clear c44
      try clear c46
      try clear c47
      try clear c48
      try clear c52
      try clear c53
      try clear c54
      try clear c55
      try clear c58
      try clear c58b0
      try clear c58b1
      try clear c58b2
      try clear c59
      try clear c59b0
      try clear c60
      try clear c61
      try clear c62
      try clear c63
      try clear p64
      try clear c65
      try clear c66
      try clear c67
      try clear c70
      try clear c71
      try clear c72
      try clear c73
      try clear c75
      try clear c76
      try clear c77
      try clear c81
      try clear c82
      try clear c83
      try clear c84
      try clear hcz35_0
      try clear hcz35_1
      try clear hcz39_0
      try clear hcz39_1
      try clear hcz45_0
      try clear hcz45_1
      try clear hcz49_0
      try clear hcz49_1
      try clear hcz56_0
      try clear hcz56_1
      try clear hcz64_0
      try clear hcz64_1
      try clear hcz68_0
      try clear hcz68_1
      try clear hcz74_0
      try clear hcz74_1
      try clear hcz78_0
      try clear hcz78_1
      try clear hcz85_0
      try clear hcz85_1
      try clear hfz35_0
      try clear hfz35_1
      try clear hfz39_0
      try clear hfz39_1
      try clear hfz45_0
      try clear hfz45_1
      try clear hfz49_0
      try clear hfz49_1
      try clear hfz56_0
      try clear hfz56_1
      try clear hfz64_0
      try clear hfz64_1
      try clear hfz68_0
      try clear hfz68_1
      try clear hfz74_0
      try clear hfz74_1
      try clear hfz78_0
      try clear hfz78_1
      try clear hfz85_0
      try clear hfz85_1
      obtain ⟨kq, x61_7, rfl, HA, HJ7, BK134, BK135, BK137, BK138, BK139, HB⟩ := hcut
      cases kq with
      | zero => exact absurd HA.out (by simp [turnspitlaw08_KeyOrder.j0])
      | succ kj7 =>
        have H := HA.out
        clear HA
        simp only [turnspitlaw08_KeyOrder.j0] at H
        by_cases c87 : x61_7 = true
        · subst c87
          have H1 : (some false) = some r := by first | (rw [if_pos rfl] at H; exact H) | (rw [if_pos trivial] at H; exact H)
          clear H
          have H := H1
          clear H1
          rw [hr_] at H; simp at H
        · replace c87 := Bool.eq_false_iff.mpr c87
          subst c87
          have H1 : (if true = true then (if t140 = true then ((key_Less.f kj7 a0 a1_1 (wrap64 (a2_1)) a1_2 (wrap64 (a2_2))).bind fun t146 => (if t146 = true then ((key_Less.f kj7 a0 a1_0 (wrap64 (a2_0)) a1_2 (wrap64 (a2_2))).bind fun t147 => (some t147)) else (some true))) else (some true)) else (some false)) = some r := by first | (rw [if_neg (show ¬ (false = true) by decide)] at H; exact H) | (rw [if_neg (fun h => h)] at H; exact H)
          clear H
          have H := H1
          clear H1
          by_cases c88 : true = true
          · clear c88
            have H1 : (if t140 = true then ((key_Less.f kj7 a0 a1_1 (wrap64 (a2_1)) a1_2 (wrap64 (a2_2))).bind fun t146 => (if t146 = true then ((key_Less.f kj7 a0 a1_0 (wrap64 (a2_0)) a1_2 (wrap64 (a2_2))).bind fun t147 => (some t147)) else (some true))) else (some true)) = some r := by first | (rw [if_pos rfl] at H; exact H) | (rw [if_pos trivial] at H; exact H)
            clear H
            have H := H1
            clear H1
            by_cases c89 : t140 = true
            · subst c89
              have H1 : ((key_Less.f kj7 a0 a1_1 (wrap64 (a2_1)) a1_2 (wrap64 (a2_2))).bind fun t146 => (if t146 = true then ((key_Less.f kj7 a0 a1_0 (wrap64 (a2_0)) a1_2 (wrap64 (a2_2))).bind fun t147 => (some t147)) else (some true))) = some r := by first | (rw [if_pos rfl] at H; exact H) | (rw [if_pos trivial] at H; exact H)
              clear H
              have H := H1
              clear H1
              replace H := Option.bind_eq_some_iff.mp H
              obtain ⟨t146, A900, H⟩ := H
              replace H : (if t146 = true then ((key_Less.f kj7 a0 a1_0 (wrap64 (a2_0)) a1_2 (wrap64 (a2_2))).bind fun t147 => (some t147)) else (some true)) = some r := H
              have A90 := Aside0.mk A900
              clear A900
              by_cases c91 : t146 = true
              · subst c91
                have H1 : ((key_Less.f kj7 a0 a1_0 (wrap64 (a2_0)) a1_2 (wrap64 (a2_2))).bind fun t147 => (some t147)) = some r := by first | (rw [if_pos rfl] at H; exact H) | (rw [if_pos trivial] at H; exact H)
                clear H
                have H := H1
                clear H1
                replace H := Option.bind_eq_some_iff.mp H
                obtain ⟨t147, A920, H⟩ := H
                replace H : (some t147) = some r := H
                have A92 := Aside0.mk A920
                clear A920
                obtain rfl := Option.some.inj H
                have hnb93 := NB138_134.out
                have hnc93 := NB134_138.out
                have hnb94 := NB138_135.out
                have hnc94 := NB135_138.out
                have hnb95 := NB138_137.out
                have hnc95 := NB137_138.out
                have hnb96 := NB138_139.out
                have hnc96 := NB139_138.out
                have hcz97_0 : wc.cell? ⟨gb138, 0, none⟩ = some (.int .u64 a1_1) := (blk_cell BK138.out 0).trans rfl
                have hcz97_1 : wc.cell? ⟨gb138, 1, none⟩ = some (.int .i64 (wrap64 (a2_1))) := (blk_cell BK138.out 1).trans rfl
                have hfz97_0 := blk_frozen BK138.out 0
                have hfz97_1 := blk_frozen BK138.out 1
                have hnb98 := NB139_134.out
                have hnc98 := NB134_139.out
                have hnb99 := NB139_135.out
                have hnc99 := NB135_139.out
                have hnb100 := NB139_137.out
                have hnc100 := NB137_139.out
                have hcz101_0 : wc.cell? ⟨gb139, 0, none⟩ = some (.int .u64 a1_2) := (blk_cell BK139.out 0).trans rfl
                have hcz101_1 : wc.cell? ⟨gb139, 1, none⟩ = some (.int .i64 (wrap64 (a2_2))) := (blk_cell BK139.out 1).trans rfl
                have hfz101_0 := blk_frozen BK139.out 0
                have hfz101_1 := blk_frozen BK139.out 1
                go_wp2_with (first | (go_at_call 12; (with_reducible refine (key_Less.calls kj7 a0 a1_1 (wrap64 (a2_1)) a1_2 (wrap64 (a2_2)) true _ A90.out).mono ?_); rintro e w102 ⟨rfl, hb⟩; have n0_ := Aside0.mk (blk_below (g := gb134) (o := .cells #[.int .u64 a1_0, .int .u64 a1_1, .int .u64 a1_2] 38 (0, 0)) (by (with_reducible repeat (first | refine blk_drewN ?_ _ | refine blk_drew ?_ | refine blk_alloc ?_ _)); exact BK134.out) hb); have n1_ := Aside0.mk (blk_below (g := gb135) (o := .cells #[.int .u8 a2_0, .int .u8 a2_1, .int .u8 a2_2] 39 (0, 0)) (by (with_reducible repeat (first | refine blk_drewN ?_ _ | refine blk_drew ?_ | refine blk_alloc ?_ _)); exact BK135.out) hb); have n2_ := Aside0.mk (blk_below (g := gb137) (o := .cells #[.int .u64 a1_0, .int .i64 (wrap64 (a2_0))] 26 (0, 0)) (by (with_reducible repeat (first | refine blk_drewN ?_ _ | refine blk_drew ?_ | refine blk_alloc ?_ _)); exact BK137.out) hb); have n3_ := Aside0.mk (blk_below (g := gb138) (o := .cells #[.int .u64 a1_1, .int .i64 (wrap64 (a2_1))] 26 (0, 0)) (by (with_reducible repeat (first | refine blk_drewN ?_ _ | refine blk_drew ?_ | refine blk_alloc ?_ _)); exact BK138.out) hb); have n4_ := Aside0.mk (blk_below (g := gb139) (o := .cells #[.int .u64 a1_2, .int .i64 (wrap64 (a2_2))] 26 (0, 0)) (by (with_reducible repeat (first | refine blk_drewN ?_ _ | refine blk_drew ?_ | refine blk_alloc ?_ _)); exact BK139.out) hb); have n5_ := Aside0.mk (below_step (by repeat (first | (with_reducible first | exact HB.out | apply below_alloc | apply pw_below_drewN | apply below_drew1 | refine below_set ?_ GE134.out | refine below_set ?_ GE135.out | refine below_set ?_ GE137.out | refine below_set ?_ GE138.out | refine below_set ?_ GE139.out) | exact HB.out)) hb); clear BK134; clear BK135; clear BK137; clear BK138; clear BK139; clear HB; have BK134 := n0_; have BK135 := n1_; have BK137 := n2_; have BK138 := n3_; have BK139 := n4_; have HB := n5_; clear n0_ n1_ n2_ n3_ n4_ n5_; (try clear hb); (try clear hb2); (try clear hk); (try clear hi); have hnb103 := NB137_134.out; have hnc103 := NB134_137.out; have hnb104 := NB137_135.out; have hnc104 := NB135_137.out; have hcz105_0 : w102.cell? ⟨gb137, 0, none⟩ = some (.int .u64 a1_0) := (blk_cell BK137.out 0).trans rfl; have hcz105_1 : w102.cell? ⟨gb137, 1, none⟩ = some (.int .i64 (wrap64 (a2_0))) := (blk_cell BK137.out 1).trans rfl; have hfz105_0 := blk_frozen BK137.out 0; have hfz105_1 := blk_frozen BK137.out 1; have hcz106_0 : w102.cell? ⟨gb139, 0, none⟩ = some (.int .u64 a1_2) := (blk_cell BK139.out 0).trans rfl; have hcz106_1 : w102.cell? ⟨gb139, 1, none⟩ = some (.int .i64 (wrap64 (a2_2))) := (blk_cell BK139.out 1).trans rfl; have hfz106_0 := blk_frozen BK139.out 0; have hfz106_1 := blk_frozen BK139.out 1) | (go_at_call 12; (with_reducible refine (key_Less.calls kj7 a0 a1_0 (wrap64 (a2_0)) a1_2 (wrap64 (a2_2)) t147 _ A92.out).mono ?_); rintro e w107 ⟨rfl, hb⟩; have n0_ := Aside0.mk (blk_below (g := gb134) (o := .cells #[.int .u64 a1_0, .int .u64 a1_1, .int .u64 a1_2] 38 (0, 0)) (by (with_reducible repeat (first | refine blk_drewN ?_ _ | refine blk_drew ?_ | refine blk_alloc ?_ _)); exact BK134.out) hb); have n1_ := Aside0.mk (blk_below (g := gb135) (o := .cells #[.int .u8 a2_0, .int .u8 a2_1, .int .u8 a2_2] 39 (0, 0)) (by (with_reducible repeat (first | refine blk_drewN ?_ _ | refine blk_drew ?_ | refine blk_alloc ?_ _)); exact BK135.out) hb); have n2_ := Aside0.mk (blk_below (g := gb137) (o := .cells #[.int .u64 a1_0, .int .i64 (wrap64 (a2_0))] 26 (0, 0)) (by (with_reducible repeat (first | refine blk_drewN ?_ _ | refine blk_drew ?_ | refine blk_alloc ?_ _)); exact BK137.out) hb); have n3_ := Aside0.mk (blk_below (g := gb138) (o := .cells #[.int .u64 a1_1, .int .i64 (wrap64 (a2_1))] 26 (0, 0)) (by (with_reducible repeat (first | refine blk_drewN ?_ _ | refine blk_drew ?_ | refine blk_alloc ?_ _)); exact BK138.out) hb); have n4_ := Aside0.mk (blk_below (g := gb139) (o := .cells #[.int .u64 a1_2, .int .i64 (wrap64 (a2_2))] 26 (0, 0)) (by (with_reducible repeat (first | refine blk_drewN ?_ _ | refine blk_drew ?_ | refine blk_alloc ?_ _)); exact BK139.out) hb); have n5_ := Aside0.mk (below_step (by repeat (first | (with_reducible first | exact HB.out | apply below_alloc | apply pw_below_drewN | apply below_drew1 | refine below_set ?_ GE134.out | refine below_set ?_ GE135.out | refine below_set ?_ GE137.out | refine below_set ?_ GE138.out | refine below_set ?_ GE139.out) | exact HB.out)) hb); clear BK134; clear BK135; clear BK137; clear BK138; clear BK139; clear HB; have BK134 := n0_; have BK135 := n1_; have BK137 := n2_; have BK138 := n3_; have BK139 := n4_; have HB := n5_; clear n0_ n1_ n2_ n3_ n4_ n5_; (try clear hb); (try clear hb2); (try clear hk); (try clear hi)))
                go_ret
                exact ⟨by first | rfl | (simp [errW_none, errW_some] <;> rfl) | (simp [*, errW_none, errW_some] <;> rfl), by repeat (first | (with_reducible first | exact HB.out | apply below_alloc | apply pw_below_drewN | apply below_drew1 | refine below_set ?_ GE134.out | refine below_set ?_ GE135.out | refine below_set ?_ GE137.out | refine below_set ?_ GE138.out | refine below_set ?_ GE139.out) | exact HB.out)⟩
              · replace c91 := Bool.eq_false_iff.mpr c91
                subst c91
                have H1 : (some true) = some r := by first | (rw [if_neg (show ¬ (false = true) by decide)] at H; exact H) | (rw [if_neg (fun h => h)] at H; exact H)
                clear H
                have H := H1
                clear H1
                obtain rfl := Option.some.inj H
                have hnb108 := NB138_134.out
                have hnc108 := NB134_138.out
                have hnb109 := NB138_135.out
                have hnc109 := NB135_138.out
                have hnb110 := NB138_137.out
                have hnc110 := NB137_138.out
                have hnb111 := NB138_139.out
                have hnc111 := NB139_138.out
                have hcz112_0 : wc.cell? ⟨gb138, 0, none⟩ = some (.int .u64 a1_1) := (blk_cell BK138.out 0).trans rfl
                have hcz112_1 : wc.cell? ⟨gb138, 1, none⟩ = some (.int .i64 (wrap64 (a2_1))) := (blk_cell BK138.out 1).trans rfl
                have hfz112_0 := blk_frozen BK138.out 0
                have hfz112_1 := blk_frozen BK138.out 1
                have hnb113 := NB139_134.out
                have hnc113 := NB134_139.out
                have hnb114 := NB139_135.out
                have hnc114 := NB135_139.out
                have hnb115 := NB139_137.out
                have hnc115 := NB137_139.out
                have hcz116_0 : wc.cell? ⟨gb139, 0, none⟩ = some (.int .u64 a1_2) := (blk_cell BK139.out 0).trans rfl
                have hcz116_1 : wc.cell? ⟨gb139, 1, none⟩ = some (.int .i64 (wrap64 (a2_2))) := (blk_cell BK139.out 1).trans rfl
                have hfz116_0 := blk_frozen BK139.out 0
                have hfz116_1 := blk_frozen BK139.out 1
                go_wp2_with (first | (go_at_call 12; (with_reducible refine (key_Less.calls kj7 a0 a1_1 (wrap64 (a2_1)) a1_2 (wrap64 (a2_2)) false _ A90.out).mono ?_); rintro e w117 ⟨rfl, hb⟩; have n0_ := Aside0.mk (blk_below (g := gb134) (o := .cells #[.int .u64 a1_0, .int .u64 a1_1, .int .u64 a1_2] 38 (0, 0)) (by (with_reducible repeat (first | refine blk_drewN ?_ _ | refine blk_drew ?_ | refine blk_alloc ?_ _)); exact BK134.out) hb); have n1_ := Aside0.mk (blk_below (g := gb135) (o := .cells #[.int .u8 a2_0, .int .u8 a2_1, .int .u8 a2_2] 39 (0, 0)) (by (with_reducible repeat (first | refine blk_drewN ?_ _ | refine blk_drew ?_ | refine blk_alloc ?_ _)); exact BK135.out) hb); have n2_ := Aside0.mk (blk_below (g := gb137) (o := .cells #[.int .u64 a1_0, .int .i64 (wrap64 (a2_0))] 26 (0, 0)) (by (with_reducible repeat (first | refine blk_drewN ?_ _ | refine blk_drew ?_ | refine blk_alloc ?_ _)); exact BK137.out) hb); have n3_ := Aside0.mk (blk_below (g := gb138) (o := .cells #[.int .u64 a1_1, .int .i64 (wrap64 (a2_1))] 26 (0, 0)) (by (with_reducible repeat (first | refine blk_drewN ?_ _ | refine blk_drew ?_ | refine blk_alloc ?_ _)); exact BK138.out) hb); have n4_ := Aside0.mk (blk_below (g := gb139) (o := .cells #[.int .u64 a1_2, .int .i64 (wrap64 (a2_2))] 26 (0, 0)) (by (with_reducible repeat (first | refine blk_drewN ?_ _ | refine blk_drew ?_ | refine blk_alloc ?_ _)); exact BK139.out) hb); have n5_ := Aside0.mk (below_step (by repeat (first | (with_reducible first | exact HB.out | apply below_alloc | apply pw_below_drewN | apply below_drew1 | refine below_set ?_ GE134.out | refine below_set ?_ GE135.out | refine below_set ?_ GE137.out | refine below_set ?_ GE138.out | refine below_set ?_ GE139.out) | exact HB.out)) hb); clear BK134; clear BK135; clear BK137; clear BK138; clear BK139; clear HB; have BK134 := n0_; have BK135 := n1_; have BK137 := n2_; have BK138 := n3_; have BK139 := n4_; have HB := n5_; clear n0_ n1_ n2_ n3_ n4_ n5_; (try clear hb); (try clear hb2); (try clear hk); (try clear hi)))
                go_ret
                exact ⟨by first | rfl | (simp [errW_none, errW_some] <;> rfl) | (simp [*, errW_none, errW_some] <;> rfl), by repeat (first | (with_reducible first | exact HB.out | apply below_alloc | apply pw_below_drewN | apply below_drew1 | refine below_set ?_ GE134.out | refine below_set ?_ GE135.out | refine below_set ?_ GE137.out | refine below_set ?_ GE138.out | refine below_set ?_ GE139.out) | exact HB.out)⟩
            · replace c89 := Bool.eq_false_iff.mpr c89
              subst c89
              have H1 : (some true) = some r := by first | (rw [if_neg (show ¬ (false = true) by decide)] at H; exact H) | (rw [if_neg (fun h => h)] at H; exact H)
              clear H
              have H := H1
              clear H1
              obtain rfl := Option.some.inj H
              go_wp2
              go_ret
              exact ⟨by first | rfl | (simp [errW_none, errW_some] <;> rfl) | (simp [*, errW_none, errW_some] <;> rfl), by repeat (first | (with_reducible first | exact HB.out | apply below_alloc | apply pw_below_drewN | apply below_drew1 | refine below_set ?_ GE134.out | refine below_set ?_ GE135.out | refine below_set ?_ GE137.out | refine below_set ?_ GE138.out | refine below_set ?_ GE139.out) | exact HB.out)⟩
          · exact absurd rfl c88
  · replace c5 := Bool.eq_false_iff.mpr c5
    subst c5
    have H1 : (some false) = some r := by first | (rw [if_neg (show ¬ (false = true) by decide)] at H; exact H) | (rw [if_neg (fun h => h)] at H; exact H)
    clear H
    have H := H1
    clear H1
    rw [hr_] at H; simp at H
end Go.Proofs.Ytahnkldkbbkflaa.QKeyOrder
