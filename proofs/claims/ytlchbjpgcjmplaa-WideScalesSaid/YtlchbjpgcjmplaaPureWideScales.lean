/- Scaling by the divisor is no change; scaling grows with the factor and falls with the divisor. For every input of the given kinds; no condition. -/
import Derived.Test.YtlchbjpgcjmplaaQWideScalesx1
import Derived.Test.YtlchbjpgcjmplaaMath
namespace Go.Proofs.Ytlchbjpgcjmplaa.Pure
set_option linter.unusedSimpArgs false
set_option linter.unusedVariables false
open Go.RowKit Go.Proofs.Ytlchbjpgcjmplaa.QWideScales Go.Proofs.YtlchbjpgcjmplaaW.PrintWords Go.Proofs.YtlchbjpgcjmplaaW.PrintLast Go.Proofs.YtlchbjpgcjmplaaW.PrintMore Go.Proofs.Ytlchbjpgcjmplaa.WideMath

theorem wfu {n : Int} (h : (Lit.int .u64 n).wf = true) : 0 ≤ n ∧ n < 18446744073709551616 := by
  simp [Lit.wf, IntKind.min, IntKind.max, IntKind.signed, IntKind.bits] at h; omega
theorem awk : turnspitlaw01_awake.f = some true := by decide +kernel
theorem prod_bd {a b : Int} (ha0 : 0 ≤ a) (ha1 : a < 18446744073709551616) (hb0 : 0 ≤ b) (hb1 : b < 18446744073709551616) : 0 ≤ a * b ∧ a * b ≤ 340282366920938463426481119284349108225 := by
  refine ⟨Int.mul_nonneg ha0 hb0, ?_⟩
  have h := Int.mul_le_mul (show a ≤ 18446744073709551615 by omega) (show b ≤ 18446744073709551615 by omega) hb0 (by decide)
  simpa using h
theorem mul (a b : Int) (ha0 : 0 ≤ a) (ha1 : a < 18446744073709551616) (hb0 : 0 ≤ b) (hb1 : b < 18446744073709551616) :
    wide_Mul.f a b = some (a * b / 18446744073709551616, a * b % 18446744073709551616) := by
  unfold wide_Mul.f
  rw [and32 a ha0 ha1, and32 b hb0 hb1]
  obtain ⟨x, hx⟩ : ∃ x, a / 4294967296 = x := ⟨_, rfl⟩
  obtain ⟨y, hy⟩ : ∃ y, a % 4294967296 = y := ⟨_, rfl⟩
  obtain ⟨p, hp⟩ : ∃ p, b / 4294967296 = p := ⟨_, rfl⟩
  obtain ⟨q, hq⟩ : ∃ q, b % 4294967296 = q := ⟨_, rfl⟩
  have ea : a = x * 4294967296 + y := by omega
  have eb : b = p * 4294967296 + q := by omega
  have hm := mul_parts x y p q
  rw [← ea, ← eb] at hm
  rw [hx, hy, hp, hq]
  have b1 := mul_bd (x := x) (q := p) (by omega) (by omega) (by omega) (by omega)
  have b2 := mul_bd (x := x) (q := q) (by omega) (by omega) (by omega) (by omega)
  have b3 := mul_bd (x := y) (q := p) (by omega) (by omega) (by omega) (by omega)
  have b4 := mul_bd (x := y) (q := q) (by omega) (by omega) (by omega) (by omega)
  have b5 := prod_bd ha0 ha1 hb0 hb1
  clear hx hy hp hq ea eb
  generalize x * p = A at *
  generalize x * q = B at *
  generalize y * p = C at *
  generalize y * q = D at *
  generalize a * b = P at *
  have w1 : IntKind.u64.wrap A = A := wid (by omega) (by omega)
  have w2 : IntKind.u64.wrap B = B := wid (by omega) (by omega)
  have w3 : IntKind.u64.wrap C = C := wid (by omega) (by omega)
  have w4 : IntKind.u64.wrap D = D := wid (by omega) (by omega)
  rw [w1, w2, w3, w4]
  have w5 : IntKind.u64.wrap (B + D / 4294967296) = B + D / 4294967296 := wid (by omega) (by omega)
  rw [w5, and32 (B + D / 4294967296) (by omega) (by omega), and32 D (by omega) (by omega)]
  have w6 : IntKind.u64.wrap (C + (B + D / 4294967296) % 4294967296) = C + (B + D / 4294967296) % 4294967296 := wid (by omega) (by omega)
  rw [w6]
  have w7 : IntKind.u64.wrap (A + (B + D / 4294967296) / 4294967296) = A + (B + D / 4294967296) / 4294967296 := wid (by omega) (by omega)
  rw [w7]
  have w8 : IntKind.u64.wrap (A + (B + D / 4294967296) / 4294967296 + (C + (B + D / 4294967296) % 4294967296) / 4294967296) = P / 18446744073709551616 := by rw [wu]; omega
  rw [w8]
  have w9 : IntKind.u64.wrap ((C + (B + D / 4294967296) % 4294967296) * 4294967296) = ((C + (B + D / 4294967296) % 4294967296) % 4294967296) * 4294967296 := by rw [wu]; omega
  rw [w9, or32 _ _ (by omega) (by omega) (by omega) (by omega) (by omega)]
  have w10 : (C + (B + D / 4294967296) % 4294967296) % 4294967296 * 4294967296 + D % 4294967296 = P % 18446744073709551616 := by omega
  rw [w10]
theorem add (h l m : Int) (hh0 : 0 ≤ h) (hh1 : h < 18446744073709551616) (hl0 : 0 ≤ l) (hl1 : l < 18446744073709551616) (hm0 : 0 ≤ m) (hm1 : m < 18446744073709551616) :
    wide_Add.f h l m = some ((h + (l + m) / 18446744073709551616) % 18446744073709551616, (l + m) % 18446744073709551616) := by
  unfold wide_Add.f
  simp only [wu]
  by_cases c : (l + m) % 18446744073709551616 < m
  · rw [if_pos c]
    have : (l + m) / 18446744073709551616 = 1 := by omega
    rw [this]
  · rw [if_neg c]
    have : (l + m) / 18446744073709551616 = 0 := by omega
    rw [this, Int.add_zero, Int.emod_eq_of_lt hh0 hh1]
theorem div (h l d : Int) (hh0 : 0 ≤ h) (hl0 : 0 ≤ l) (hl1 : l < 18446744073709551616) (hd1 : d < 18446744073709551616) :
    wide_Div.f h l d = if d ≤ h then some (0, 0, false) else some ((h * 18446744073709551616 + l) / d, (h * 18446744073709551616 + l) % d, true) := by
  unfold wide_Div.f; rw [if_pos ⟨hh0, hl0, by omega, by omega⟩]; rfl
def scl (P d : Int) : Int := if d ≤ P / 18446744073709551616 then 18446744073709551615 else P / d
theorem scale (a b d : Int) (ha0 : 0 ≤ a) (ha1 : a < 18446744073709551616) (hb0 : 0 ≤ b) (hb1 : b < 18446744073709551616) (hd1 : d < 18446744073709551616) :
    wide_Scale.f a b d = some (scl (a * b) d) := by
  have bd := prod_bd ha0 ha1 hb0 hb1
  unfold wide_Scale.f scl
  rw [mul a b ha0 ha1 hb0 hb1]; simp only [Option.bind_some]
  rw [div _ _ _ (by omega) (by omega) (by omega) hd1]
  have e : a * b / 18446744073709551616 * 18446744073709551616 + a * b % 18446744073709551616 = a * b := by omega
  by_cases c : d ≤ a * b / 18446744073709551616
  · rw [if_pos c, if_pos c]; rfl
  · rw [if_neg c, if_neg c, e]; rfl

theorem or_ge (a b : Int) (ha0 : 0 ≤ a) (ha1 : a < 18446744073709551616) (hb0 : 0 ≤ b) (hb1 : b < 18446744073709551616) : a ≤ Go.bits .or .u64 a b ∧ Go.bits .or .u64 a b < 18446744073709551616 := by
  obtain ⟨x, rfl⟩ := Int.eq_ofNat_of_zero_le ha0
  obtain ⟨y, rfl⟩ := Int.eq_ofNat_of_zero_le hb0
  have hx : x < 2 ^ 64 := by omega
  have hy : y < 2 ^ 64 := by omega
  rw [(bits_nat .u64 64 (by decide) wids x y hx hy).2]
  have : x ≤ x ||| y := Nat.left_le_or
  have := Nat.or_lt_two_pow hx hy
  omega
theorem scl_le (P d : Int) (hP : 0 ≤ P) : scl P d ≤ 18446744073709551615 := by
  unfold scl
  split
  · exact Int.le_refl _
  · have := Int.ediv_lt_of_lt_mul (a := P) (b := 18446744073709551616) (c := d) (by omega) (by omega)
    omega
theorem scl_mono {P P' d : Int} (hP : 0 ≤ P) (h : P ≤ P') : scl P d ≤ scl P' d := by
  have l := scl_le P d hP
  unfold scl at *
  by_cases c : d ≤ P' / 18446744073709551616
  · rw [if_pos c]; exact l
  · rw [if_neg c, if_neg (by omega)]; exact Int.ediv_le_ediv (by omega) h
theorem scl_anti {P d d' : Int} (hP : 0 ≤ P) (h : d ≤ d') : scl P d' ≤ scl P d := by
  have l := scl_le P d' hP
  unfold scl at *
  by_cases c : d ≤ P / 18446744073709551616
  · rw [if_pos c]; exact l
  · rw [if_neg c, if_neg (by omega)]
    refine (Int.le_ediv_iff_mul_le (by omega)).2 ?_
    exact Int.le_trans (Int.mul_le_mul_of_nonneg_left h (Int.ediv_nonneg hP (by omega))) (Int.ediv_mul_le _ (by omega))
theorem WideScales : turnspitlaw01_WideScales.Pure := by
  intro a b c ha hb hc
  have ga := wfu ha; have gb := wfu hb; have gc := wfu hc
  refine ⟨1, ?_⟩
  have o1 := or_ge a b ga.1 ga.2 gb.1 gb.2
  have o2 := or_ge c a gc.1 gc.2 ga.1 ga.2
  have p0 := prod_bd ga.1 ga.2 gb.1 gb.2
  have j : turnspitlaw01_WideScales.j0 1 a b c true false = some true := by
    simp only [turnspitlaw01_WideScales.j0, Bool.false_eq_true, if_false, if_true]
    rw [scale a b c ga.1 ga.2 gb.1 gb.2 gc.2, scale _ b c (by omega) o1.2 gb.1 gb.2 gc.2, scale a b _ ga.1 ga.2 gb.1 gb.2 o2.2, scale b a c gb.1 gb.2 ga.1 ga.2 gc.2]
    simp only [Option.bind_some]
    rw [if_pos (scl_mono p0.1 (Int.mul_le_mul_of_nonneg_right o1.1 gb.1)), if_pos (scl_anti p0.1 o2.1), Int.mul_comm b a]; simp
  unfold turnspitlaw01_WideScales.f
  rw [awk]; simp only [Option.bind_some, if_true]
  by_cases c0 : c > 0
  · rw [if_pos c0, scale a c c ga.1 ga.2 gc.1 gc.2 gc.2]; simp only [Option.bind_some]
    have e : scl (a * c) c = a := by
      unfold scl
      have := Int.mul_lt_mul_of_pos_right ga.2 c0
      rw [if_neg (by omega), Int.mul_ediv_cancel _ (by omega)]
    rw [e]; simpa using j
  · rw [if_neg c0]; exact j

end Go.Proofs.Ytlchbjpgcjmplaa.Pure
