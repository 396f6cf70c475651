/- Any time, so much further, is what the document says; it never goes back, nor beyond MaxLag; two steps are one of both, as far as they go. For every input of the given kinds; no condition. -/
import Derived.Test.YtigakimfoanonaaPTurnStepsx1
namespace Go.Proofs.Ytigakimfoanonaa.Pure
open Go.RowKit Go.Proofs.Ytigakimfoanonaa.PTurnSteps Go.Proofs.YtigakimfoanonaaW.PrintWords Go.Proofs.YtigakimfoanonaaW.PrintLast

theorem wu (n : Int) : IntKind.u64.wrap n = n % 18446744073709551616 := by
  unfold IntKind.wrap; simp [IntKind.signed, IntKind.bits]
theorem wfu {n : Int} (h : (Lit.int .u64 n).wf = true) : 0 ≤ n ∧ n < 18446744073709551616 := by
  simp [Lit.wf, IntKind.min, IntKind.max, IntKind.signed, IntKind.bits] at h; omega
theorem wfi {n : Int} (h : (Lit.int .i64 n).wf = true) : -9223372036854775808 ≤ n ∧ n < 9223372036854775808 := by
  simp [Lit.wf, IntKind.min, IntKind.max, IntKind.signed, IntKind.bits] at h; omega
theorem awk : turnspitlaw03_awake.f = some true := by decide +kernel
def bef (a b : Int) : Bool := decide (0 < (b - a) % 18446744073709551616 ∧ (b - a) % 18446744073709551616 < 9223372036854775808)
def lg (a b : Int) : Int := (a - b + 9223372036854775808) % 18446744073709551616 - 9223372036854775808
def att (a b : Int) : Int := (a + b) % 18446744073709551616
theorem before (a b : Int) : turn_Before.f a b = some (bef a b) := by
  unfold turn_Before.f bef; rw [wu]
  split <;> simp <;> omega
theorem lag (a b : Int) : turn_Lag.f a b = some (lg a b) := by
  unfold turn_Lag.f lg wrap64; rw [wu]; congr 1; omega
theorem at_ (a b : Int) : turn_At.f a b = some (att a b) := by
  unfold turn_At.f att; rw [wu, wu]; congr 1; omega
theorem later (a b : Int) : turn_Later.f a b = some (if bef a b = true then b else a) := by
  unfold turn_Later.f turn_choose_uint64.f; rw [before]; simp only [Option.bind_some]; split <;> rfl
theorem earlier (a b : Int) : turn_Earlier.f a b = some (if bef b a = true then b else a) := by
  unfold turn_Earlier.f turn_choose_uint64.f; rw [before]; simp only [Option.bind_some]; split <;> rfl
def clp (n l m : Int) : Int := if n < l then l else if n > m then m else n
theorem clamp (n l m : Int) : turn_Clamp.f n l m = some (clp n l m) := by
  unfold turn_Clamp.f turn_between_int.f clp; (split; · rfl); split <;> rfl
def stp (v m d : Int) : Int := if d < 1 then v else if lg v m ≥ 1125899906842624 then v else if d > 1125899906842624 - lg v m then (m + 1125899906842624) % 18446744073709551616 else (v + d) % 18446744073709551616
theorem step (v m d : Int) (hd : d < 9223372036854775808) : turn_Step.f v m d = some (stp v m d) := by
  unfold turn_Step.f stp; rw [lag]; simp only [Option.bind_some]
  by_cases h1 : d < 1
  · rw [if_pos h1, if_pos h1]
  · rw [if_neg h1, if_neg h1]
    by_cases h2 : lg v m ≥ 1125899906842624
    · rw [if_pos h2, if_pos h2]
    · rw [if_neg h2, if_neg h2]
      have h3 : -9223372036854775808 ≤ lg v m := by unfold lg; omega
      have e1 : IntKind.u64.wrap (1125899906842624 - IntKind.u64.wrap (lg v m)) = 1125899906842624 - lg v m := by rw [wu, wu]; omega
      have e2 : IntKind.u64.wrap d = d := by rw [wu]; omega
      rw [e1, e2]; unfold turn_between_uint64.f; rw [if_neg (by omega)]
      by_cases h4 : d > 1125899906842624 - lg v m
      · rw [if_pos h4, if_pos h4]; simp only [Option.bind_some]; rw [wu]; congr 1; unfold lg; omega
      · rw [if_neg h4, if_neg h4]; simp only [Option.bind_some]; rw [wu]

theorem lag' (a b : Int) : turnspitref03_Lag.f a b = some (lg a b) := by
  unfold turnspitref03_Lag.f lg wrap64; simp only [wu]
  split <;> (congr 1; omega)
theorem at' (a b : Int) : turnspitref03_At.f a b = some (att a b) := by
  unfold turnspitref03_At.f att; rw [wu, wu]; congr 1; omega
theorem step' (v m d : Int) (hd : d < 9223372036854775808) : turnspitref03_Step.f 1 v m d = some (stp v m d) := by
  unfold turnspitref03_Step.f stp; rw [lag']; simp only [Option.bind_some]
  by_cases h1 : d < 1
  · rw [if_pos h1, if_pos h1]; rfl
  · rw [if_neg h1, if_neg h1]
    by_cases h2 : lg v m ≥ 1125899906842624
    · rw [if_pos h2, decide_eq_true h2]; rfl
    · rw [if_neg h2, decide_eq_false h2]
      have h3 : -9223372036854775808 ≤ lg v m := by unfold lg; omega
      have e1 : IntKind.u64.wrap (1125899906842624 - IntKind.u64.wrap (lg v m)) = 1125899906842624 - lg v m := by rw [wu, wu]; omega
      have e2 : IntKind.u64.wrap d = d := by rw [wu]; omega
      simp only [turnspitref03_Step.j0, e1, e2, Bool.false_eq_true, if_false, at', Option.bind_some]
      by_cases h4 : d > 1125899906842624 - lg v m
      · rw [if_pos h4, if_pos h4]; rfl
      · rw [if_neg h4, if_neg h4, wu]
theorem stp_two (v m d e : Int) (hd : 0 ≤ d) (he : 0 ≤ e) (hs : d + e < 9223372036854775808) : stp (stp v m d) m e = stp v m (d + e) := by
  by_cases d1 : d < 1
  · obtain rfl : d = 0 := by omega
    have : stp v m 0 = v := by unfold stp; rw [if_pos (by omega)]
    rw [this]; congr 1; omega
  by_cases l1 : lg v m ≥ 1125899906842624
  · have a1 : ∀ x, stp v m x = v := by intro x; unfold stp; rw [if_pos l1]; split <;> rfl
    rw [a1, a1, a1]
  have h3 : -9223372036854775808 ≤ lg v m := by unfold lg; omega
  by_cases c1 : d > 1125899906842624 - lg v m
  · have a1 : stp v m d = (m + 1125899906842624) % 18446744073709551616 := by unfold stp; rw [if_neg d1, if_neg l1, if_pos c1]
    have a2 : stp v m (d + e) = (m + 1125899906842624) % 18446744073709551616 := by unfold stp; rw [if_neg (by omega), if_neg l1, if_pos (by omega)]
    rw [a1, a2]
    have l2 : lg ((m + 1125899906842624) % 18446744073709551616) m = 1125899906842624 := by unfold lg; omega
    unfold stp; rw [l2]; (split; · rfl); rw [if_pos (by omega)]
  have a1 : stp v m d = (v + d) % 18446744073709551616 := by unfold stp; rw [if_neg d1, if_neg l1, if_neg c1]
  have l2 : lg ((v + d) % 18446744073709551616) m = lg v m + d := by unfold lg at *; omega
  rw [a1]
  by_cases e1 : e < 1
  · obtain rfl : e = 0 := by omega
    have : ∀ x, stp x m 0 = x := by intro x; unfold stp; rw [if_pos (by omega)]
    rw [this, Int.add_zero, a1]
  unfold stp
  rw [l2, if_neg e1, if_neg (show ¬ d + e < 1 by omega), if_neg l1]
  by_cases l3 : lg v m + d ≥ 1125899906842624
  · rw [if_pos l3, if_pos (by omega)]; unfold lg at *; omega
  rw [if_neg l3]
  by_cases c2 : e > 1125899906842624 - (lg v m + d)
  · rw [if_pos c2, if_pos (by omega)]
  · rw [if_neg c2, if_neg (by omega)]; omega
theorem stp_up (v m d : Int) : lg v m ≤ lg (stp v m d) m ∧ (lg (stp v m d) m ≤ 1125899906842624 ∨ stp v m d = v) := by
  by_cases d1 : d < 1
  · have : stp v m d = v := by unfold stp; rw [if_pos d1]
    rw [this]; exact ⟨Int.le_refl _, .inr rfl⟩
  by_cases l1 : lg v m ≥ 1125899906842624
  · have : stp v m d = v := by unfold stp; rw [if_pos l1]; split <;> rfl
    rw [this]; exact ⟨Int.le_refl _, .inr rfl⟩
  by_cases c1 : d > 1125899906842624 - lg v m
  · have a1 : stp v m d = (m + 1125899906842624) % 18446744073709551616 := by unfold stp; rw [if_neg d1, if_neg l1, if_pos c1]
    have l2 : lg ((m + 1125899906842624) % 18446744073709551616) m = 1125899906842624 := by unfold lg; omega
    rw [a1, l2]; omega
  · have a1 : stp v m d = (v + d) % 18446744073709551616 := by unfold stp; rw [if_neg d1, if_neg l1, if_neg c1]
    have l2 : lg ((v + d) % 18446744073709551616) m = lg v m + d := by unfold lg at *; omega
    rw [a1, l2]; omega
theorem TurnSteps : turnspitlaw03_TurnSteps.Pure := by
  intro v m d hv hm hd
  have gd := wfi hd
  have up := stp_up v m d
  refine ⟨1, ?_⟩
  have j : turnspitlaw03_TurnSteps.j0 1 v m d (stp v m d) false = some true := by
    simp only [turnspitlaw03_TurnSteps.j0, awk, Option.bind_some, if_true, Bool.false_eq_true, if_false]
    by_cases h : d < 0
    · rw [if_pos h]
    · rw [if_neg h]
      have e : Int.tdiv d 2 = d / 2 := Int.tdiv_eq_ediv_of_nonneg (by omega)
      have w1 : wrap64 (d / 2) = d / 2 := by unfold wrap64; omega
      have w2 : wrap64 (d - d / 2) = d - d / 2 := by unfold wrap64; omega
      rw [e, w1, w2, step _ _ _ (by omega)]; simp only [Option.bind_some]
      rw [step _ _ _ (by omega)]; simp only [Option.bind_some]
      rw [stp_two v m (d / 2) (d - d / 2) (by omega) (by omega) (by omega)]
      have : d / 2 + (d - d / 2) = d := by omega
      rw [this]; simp
  unfold turnspitlaw03_TurnSteps.f
  rw [step _ _ _ gd.2, step' _ _ _ gd.2]
  simp only [Option.bind_some, lag, if_true]
  rw [if_neg (by omega)]
  by_cases h : lg (stp v m d) m > 1125899906842624
  · rw [if_pos h]
    have : stp v m d = v := by omega
    rw [this] at j ⊢
    simpa using j
  · rw [if_neg h]; exact j

end Go.Proofs.Ytigakimfoanonaa.Pure
