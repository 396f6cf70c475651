/- What is kept between bounds that may be is between them, itself, if it was; kept once more it is the same. For every input of the given kinds; no condition. -/
import Derived.Test.YtigakimfoanonaaPTurnBoundsx1
namespace Go.Proofs.Ytigakimfoanonaa.Pure
open Go.RowKit Go.Proofs.Ytigakimfoanonaa.PTurnBounds Go.Proofs.YtigakimfoanonaaW.PrintWords Go.Proofs.YtigakimfoanonaaW.PrintLast

theorem wu (n : Int) : IntKind.u64.wrap n = n % 18446744073709551616 := by
  unfold IntKind.wrap; simp [IntKind.signed, IntKind.bits]
theorem wfu {n : Int} (h : (Lit.int .u64 n).wf = true) : 0 ≤ n ∧ n < 18446744073709551616 := by
  simp [Lit.wf, IntKind.min, IntKind.max, IntKind.signed, IntKind.bits] at h; omega
theorem wfi {n : Int} (h : (Lit.int .i64 n).wf = true) : -9223372036854775808 ≤ n ∧ n < 9223372036854775808 := by
  simp [Lit.wf, IntKind.min, IntKind.max, IntKind.signed, IntKind.bits] at h; omega
theorem awk : turnspitlaw03_awake.f = some true := by decide +kernel
def bef (a b : Int) : Bool := decide (0 < (b - a) % 18446744073709551616 ∧ (b - a) % 18446744073709551616 < 9223372036854775808)
def lg (a b : Int) : Int := (a - b + 9223372036854775808) % 18446744073709551616 - 9223372036854775808
def att (a b : Int) : Int := (a + b) % 18446744073709551616
theorem before (a b : Int) : turn_Before.f a b = some (bef a b) := by
  unfold turn_Before.f bef; rw [wu]
  split <;> simp <;> omega
theorem lag (a b : Int) : turn_Lag.f a b = some (lg a b) := by
  unfold turn_Lag.f lg wrap64; rw [wu]; congr 1; omega
theorem at_ (a b : Int) : turn_At.f a b = some (att a b) := by
  unfold turn_At.f att; rw [wu, wu]; congr 1; omega
theorem later (a b : Int) : turn_Later.f a b = some (if bef a b = true then b else a) := by
  unfold turn_Later.f turn_choose_uint64.f; rw [before]; simp only [Option.bind_some]; split <;> rfl
theorem earlier (a b : Int) : turn_Earlier.f a b = some (if bef b a = true then b else a) := by
  unfold turn_Earlier.f turn_choose_uint64.f; rw [before]; simp only [Option.bind_some]; split <;> rfl
def clp (n l m : Int) : Int := if n < l then l else if n > m then m else n
theorem clamp (n l m : Int) : turn_Clamp.f n l m = some (clp n l m) := by
  unfold turn_Clamp.f turn_between_int.f clp; (split; · rfl); split <;> rfl
def stp (v m d : Int) : Int := if d < 1 then v else if lg v m ≥ 1125899906842624 then v else if d > 1125899906842624 - lg v m then (m + 1125899906842624) % 18446744073709551616 else (v + d) % 18446744073709551616
theorem step (v m d : Int) (hd : d < 9223372036854775808) : turn_Step.f v m d = some (stp v m d) := by
  unfold turn_Step.f stp; rw [lag]; simp only [Option.bind_some]
  by_cases h1 : d < 1
  · rw [if_pos h1, if_pos h1]
  · rw [if_neg h1, if_neg h1]
    by_cases h2 : lg v m ≥ 1125899906842624
    · rw [if_pos h2, if_pos h2]
    · rw [if_neg h2, if_neg h2]
      have h3 : -9223372036854775808 ≤ lg v m := by unfold lg; omega
      have e1 : IntKind.u64.wrap (1125899906842624 - IntKind.u64.wrap (lg v m)) = 1125899906842624 - lg v m := by rw [wu, wu]; omega
      have e2 : IntKind.u64.wrap d = d := by rw [wu]; omega
      rw [e1, e2]; unfold turn_between_uint64.f; rw [if_neg (by omega)]
      by_cases h4 : d > 1125899906842624 - lg v m
      · rw [if_pos h4, if_pos h4]; simp only [Option.bind_some]; rw [wu]; congr 1; unfold lg; omega
      · rw [if_neg h4, if_neg h4]; simp only [Option.bind_some]; rw [wu]

theorem TurnBounds : turnspitlaw03_TurnBounds.Pure := by
  intro n a b hn ha hb
  obtain ⟨l, hl⟩ : ∃ l, l = (if a < b then a else b) := ⟨_, rfl⟩
  have el : turnspitlaw03_min2.f a b = some l := by unfold turnspitlaw03_min2.f; rw [hl]; split <;> rfl
  obtain ⟨m, hm⟩ : ∃ m, m = mx a b := ⟨_, rfl⟩
  have hlm : l ≤ m := by rw [hl, hm]; unfold mx; split <;> omega
  unfold turnspitlaw03_TurnBounds.f
  rw [el, ← hm]
  simp only [Option.bind_some, clamp, awk, if_true]
  have c1 : clp n l m ≥ l := by unfold clp; (split; · omega); split <;> omega
  have c2 : clp n l m ≤ m := by unfold clp; (split; · omega); split <;> omega
  have c3 : clp (clp n l m) l m = clp n l m := by
    generalize clp n l m = x at *
    unfold clp; rw [if_neg (by omega), if_neg (by omega)]
  rw [if_pos c1, if_pos c2, c3]
  by_cases h : n ≥ l
  · have e : ((clp n l m == n) == decide (n ≤ m)) = true := by
      unfold clp; rw [if_neg (by omega)]
      by_cases h2 : n > m
      · rw [if_pos h2, decide_eq_false (by omega)]; simp; omega
      · rw [if_neg h2, decide_eq_true (by omega)]; simp
    rw [if_pos h, e]; simp
  · have e : ((clp n l m == n) == false) = true := by
      unfold clp; rw [if_pos (by omega)]; simp; omega
    rw [if_neg h, e]; simp

end Go.Proofs.Ytigakimfoanonaa.Pure
