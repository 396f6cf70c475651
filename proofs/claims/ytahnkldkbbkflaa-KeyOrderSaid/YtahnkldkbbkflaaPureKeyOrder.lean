/- Of two keys one is less unless they stand alike; less is passed on; no condition. -/
import Derived.Test.YtahnkldkbbkflaaQKeyOrderx4
import Derived.Test.YtahnkldkbbkflaaKPure2
namespace Go.Proofs.Ytahnkldkbbkflaa.QKeyOrder
open Go.RowKit Go.Proofs Go.Proofs.Ytahnkldkbbkflaa Go.Proofs.Ytahnkldkbbkflaa.Ky Go.Proofs.Ytahnkldkbbkflaa.Srt Go.Proofs.Ytahnkldkbbkflaa.KC Go.Proofs.Ytahnkldkbbkflaa.KP Go.Proofs.YtahnkldkbbkflaaW.PrintWords Go.Proofs.YtahnkldkbbkflaaW.PrintLast
set_option linter.unusedVariables false
section
theorem compare_f (a b : Int) : cmp_Compare_int.f a b = some (cmpf a b) := by
  unfold cmp_Compare_int.f cmp_isNaN_int.f cmpf
  simp only [Option.bind_some, bne_self_eq_false, Bool.false_eq_true, if_false]
  split
  · rfl
  · split <;> rfl
theorem or_f (a b : Int) : cmp_Or_int.f 3 [a, b] = some (if a = 0 then (if b = 0 then 0 else b) else a) := by
  by_cases h : a = 0
  · subst h
    by_cases h2 : b = 0
    · subst h2
      rw [if_pos rfl, if_pos rfl]
      kernel_rfl
    · rw [if_pos rfl, if_neg h2]
      simp [cmp_Or_int.f, cmp_Or_int.l0, rd, wrap64, h2]
  · rw [if_neg h]
    simp [cmp_Or_int.f, cmp_Or_int.l0, rd, h]
theorem less_3 (mn : Int) (x y : K) : key_Less.f 3 mn x.1 x.2 y.1 y.2 = some (decide (cvf mn x y < 0)) := by
  have e : key_compare.f 3 mn x.1 x.2 y.1 y.2 = some (cvf mn x y) := by
    unfold key_compare.f turn_Lag.f
    simp only [Option.bind_some, compare_f, or_f]
    congr 1
    unfold cmpf cvf lagf
    repeat' split
    all_goals first | rfl | omega
  unfold key_Less.f
  rw [e]
  rfl
theorem less_up (mn : Int) (x y : K) : ∀ k, key_Less.f (3 + k) mn x.1 x.2 y.1 y.2 = some (decide (cvf mn x y < 0))
  | 0 => less_3 mn x y
  | k + 1 => key_Less.mono _ _ _ _ _ _ _ (less_up mn x y k)
theorem less_ge (mn : Int) (x y : K) (k : Nat) (h : 3 ≤ k) : key_Less.f k mn x.1 x.2 y.1 y.2 = some (decide (cvf mn x y < 0)) := by
  have := less_up mn x y (k - 3)
  rwa [show 3 + (k - 3) = k by omega] at this
end
theorem wfu {n : Int} (h : (Lit.int .u64 n).wf = true) : 0 ≤ n ∧ n ≤ 18446744073709551615 := by
  simp [Lit.wf, IntKind.min, IntKind.max, IntKind.signed, IntKind.bits] at h; omega

theorem less_at (mn : Int) (a b c d : Int) (k : Nat) (h : 3 ≤ k) : key_Less.f k mn a b c d = some (decide (cvf mn (a, b) (c, d) < 0)) := less_ge mn (a, b) (c, d) k h
theorem order (a0 x0 x1 x2 i0 i1 i2 : Int) (h0 : 0 ≤ x0 ∧ x0 ≤ 18446744073709551615) (h1 : 0 ≤ x1 ∧ x1 ≤ 18446744073709551615) : turnspitlaw08_KeyOrder.f 4 a0 x0 x1 x2 i0 i1 i2 = some true := by
  generalize e0 : wrap64 i0 = u
  generalize e1 : wrap64 i1 = v
  generalize e2 : wrap64 i2 = z
  have j : ∀ b : Bool, b = decide (cvf a0 (x0, u) (x1, v) < 0) → turnspitlaw08_KeyOrder.j0 4 a0 true b false x0 u x1 v x2 z = some true := fun b hb => by
    rw [turnspitlaw08_KeyOrder.j0, if_neg (by simp), if_pos rfl]
    cases b with
    | false => rfl
    | true =>
      rw [if_pos rfl, less_at _ _ _ _ _ _ (by omega), Option.bind_some]
      by_cases c : cvf a0 (x1, v) (x2, z) < 0
      · rw [if_pos (decide_eq_true c), less_at _ _ _ _ _ _ (by omega), Option.bind_some]
        exact congrArg some (decide_eq_true (lt_trans (of_decide_eq_true hb.symm) c))
      · rw [if_neg (by simpa using c)]
  have irr : decide (cvf a0 (x0, u) (x0, u) < 0) = false := decide_eq_false (lt_irrefl _)
  unfold turnspitlaw08_KeyOrder.f turnspitlaw08_awake.f
  rw [Option.bind_some, if_pos rfl, e0, e1, e2, less_at _ _ _ _ _ _ (by omega), Option.bind_some, less_at _ _ _ _ _ _ (by omega), Option.bind_some, less_at _ _ _ _ _ _ (by omega)]
  simp only [Option.bind_some, irr]
  by_cases c : cvf a0 (x0, u) (x1, v) < 0
  · have d : ¬ cvf a0 (x1, v) (x0, u) < 0 := lt_asymm c
    rw [if_pos (decide_eq_true c), if_neg (by simpa using d), if_neg (by simp [c, d])]
    exact j _ rfl
  · rw [if_neg (by simpa using c)]
    by_cases d : cvf a0 (x1, v) (x0, u) < 0
    · rw [if_neg (by simp [c, d])]
      exact j _ rfl
    · have e : ((x0, u) : K) = (x1, v) := cv_antisymm (mn := a0) h0 h1 c d
      rw [if_pos (by simp [c, d]), if_neg (by injection e with e3 e4; simp [e3, e4])]
      exact j _ rfl
end Go.Proofs.Ytahnkldkbbkflaa.QKeyOrder
