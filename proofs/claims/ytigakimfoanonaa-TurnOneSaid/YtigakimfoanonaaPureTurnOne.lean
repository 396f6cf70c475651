/- Of two times one alone is ahead, unless they are the same, or as far apart as can be; the later one and the earlier one are both. For every input of the given kinds; no condition. -/
import Derived.Test.YtigakimfoanonaaQTurnOnex2
namespace Go.Proofs.Ytigakimfoanonaa.Pure
set_option linter.unusedSimpArgs false
open Go.RowKit Go.Proofs.Ytigakimfoanonaa.QTurnOne Go.Proofs.YtigakimfoanonaaW.PrintWords Go.Proofs.YtigakimfoanonaaW.PrintLast

theorem wu (n : Int) : IntKind.u64.wrap n = n % 18446744073709551616 := by
  unfold IntKind.wrap; simp [IntKind.signed, IntKind.bits]
theorem wfu {n : Int} (h : (Lit.int .u64 n).wf = true) : 0 ≤ n ∧ n < 18446744073709551616 := by
  simp [Lit.wf, IntKind.min, IntKind.max, IntKind.signed, IntKind.bits] at h; omega
theorem wfi {n : Int} (h : (Lit.int .i64 n).wf = true) : -9223372036854775808 ≤ n ∧ n < 9223372036854775808 := by
  simp [Lit.wf, IntKind.min, IntKind.max, IntKind.signed, IntKind.bits] at h; omega
theorem awk : turnspitlaw03_awake.f = some true := by decide +kernel
def bef (a b : Int) : Bool := decide (0 < (b - a) % 18446744073709551616 ∧ (b - a) % 18446744073709551616 < 9223372036854775808)
def lg (a b : Int) : Int := (a - b + 9223372036854775808) % 18446744073709551616 - 9223372036854775808
def att (a b : Int) : Int := (a + b) % 18446744073709551616
theorem before (a b : Int) : turn_Before.f a b = some (bef a b) := by
  unfold turn_Before.f bef; rw [wu]
  split <;> simp <;> omega
theorem lag (a b : Int) : turn_Lag.f a b = some (lg a b) := by
  unfold turn_Lag.f lg wrap64; rw [wu]; congr 1; omega
theorem at_ (a b : Int) : turn_At.f a b = some (att a b) := by
  unfold turn_At.f att; rw [wu, wu]; congr 1; omega
theorem later (a b : Int) : turn_Later.f a b = some (if bef a b = true then b else a) := by
  unfold turn_Later.f turn_choose_uint64.f; rw [before]; simp only [Option.bind_some]; split <;> rfl
theorem earlier (a b : Int) : turn_Earlier.f a b = some (if bef b a = true then b else a) := by
  unfold turn_Earlier.f turn_choose_uint64.f; rw [before]; simp only [Option.bind_some]; split <;> rfl
def clp (n l m : Int) : Int := if n < l then l else if n > m then m else n
theorem clamp (n l m : Int) : turn_Clamp.f n l m = some (clp n l m) := by
  unfold turn_Clamp.f turn_between_int.f clp; (split; · rfl); split <;> rfl
def stp (v m d : Int) : Int := if d < 1 then v else if lg v m ≥ 1125899906842624 then v else if d > 1125899906842624 - lg v m then (m + 1125899906842624) % 18446744073709551616 else (v + d) % 18446744073709551616
theorem step (v m d : Int) (hd : d < 9223372036854775808) : turn_Step.f v m d = some (stp v m d) := by
  unfold turn_Step.f stp; rw [lag]; simp only [Option.bind_some]
  by_cases h1 : d < 1
  · rw [if_pos h1, if_pos h1]
  · rw [if_neg h1, if_neg h1]
    by_cases h2 : lg v m ≥ 1125899906842624
    · rw [if_pos h2, if_pos h2]
    · rw [if_neg h2, if_neg h2]
      have h3 : -9223372036854775808 ≤ lg v m := by unfold lg; omega
      have e1 : IntKind.u64.wrap (1125899906842624 - IntKind.u64.wrap (lg v m)) = 1125899906842624 - lg v m := by rw [wu, wu]; omega
      have e2 : IntKind.u64.wrap d = d := by rw [wu]; omega
      rw [e1, e2]; unfold turn_between_uint64.f; rw [if_neg (by omega)]
      by_cases h4 : d > 1125899906842624 - lg v m
      · rw [if_pos h4, if_pos h4]; simp only [Option.bind_some]; rw [wu]; congr 1; unfold lg; omega
      · rw [if_neg h4, if_neg h4]; simp only [Option.bind_some]; rw [wu]

theorem TurnOne : turnspitlaw03_TurnOne.Pure := by
  intro a b ha hb
  have ga := wfu ha; have gb := wfu hb
  refine ⟨2, ?_⟩
  have self : ∀ x, bef x x = false := by intro x; unfold bef; simp
  unfold turnspitlaw03_TurnOne.f
  simp only [awk, Option.bind_some, if_true, before, wu, turnspitlaw03_TurnOne.j0, turnspitlaw03_TurnOne.j1, later, earlier]
  by_cases e : a = b
  · subst e
    simp [self, turnspitlaw03_TurnOne.j1]
  · rw [if_neg e]
    by_cases h : bef a b = true
    · have h' : bef b a = false := by unfold bef at *; simp at *; omega
      have hs : ((a - b) % 18446744073709551616 == 9223372036854775808) = false := by unfold bef at h; simp at *; omega
      simp [h, h', hs, self, turnspitlaw03_TurnOne.j1, e, Ne.symm e]
    · have h0 : bef a b = false := by simpa using h
      by_cases h' : bef b a = true
      · have hs : ((a - b) % 18446744073709551616 == 9223372036854775808) = false := by unfold bef at h'; simp at *; omega
        simp [h0, h', hs, self, turnspitlaw03_TurnOne.j1, e, Ne.symm e]
      · have h'0 : bef b a = false := by simpa using h'
        have hs : ((a - b) % 18446744073709551616 == 9223372036854775808) = true := by unfold bef at *; simp at *; omega
        simp [h0, h'0, hs, self, turnspitlaw03_TurnOne.j1, e, Ne.symm e]

end Go.Proofs.Ytigakimfoanonaa.Pure
