/- Products, sums and quotients of any numbers are the reference's. For every input of the given kinds; no condition. -/
import Derived.Test.YtlchbjpgcjmplaaQWideTellsx1
import Derived.Test.YtlchbjpgcjmplaaMath
namespace Go.Proofs.Ytlchbjpgcjmplaa.Pure
set_option linter.unusedSimpArgs false
set_option linter.unusedVariables false
open Go.RowKit Go.Proofs.Ytlchbjpgcjmplaa.QWideTells Go.Proofs.YtlchbjpgcjmplaaW.PrintWords Go.Proofs.YtlchbjpgcjmplaaW.PrintLast Go.Proofs.YtlchbjpgcjmplaaW.PrintMore Go.Proofs.Ytlchbjpgcjmplaa.WideMath

theorem wfu {n : Int} (h : (Lit.int .u64 n).wf = true) : 0 ≤ n ∧ n < 18446744073709551616 := by
  simp [Lit.wf, IntKind.min, IntKind.max, IntKind.signed, IntKind.bits] at h; omega
theorem awk : turnspitlaw01_awake.f = some true := by decide +kernel
theorem prod_bd {a b : Int} (ha0 : 0 ≤ a) (ha1 : a < 18446744073709551616) (hb0 : 0 ≤ b) (hb1 : b < 18446744073709551616) : 0 ≤ a * b ∧ a * b ≤ 340282366920938463426481119284349108225 := by
  refine ⟨Int.mul_nonneg ha0 hb0, ?_⟩
  have h := Int.mul_le_mul (show a ≤ 18446744073709551615 by omega) (show b ≤ 18446744073709551615 by omega) hb0 (by decide)
  simpa using h
theorem mul (a b : Int) (ha0 : 0 ≤ a) (ha1 : a < 18446744073709551616) (hb0 : 0 ≤ b) (hb1 : b < 18446744073709551616) :
    wide_Mul.f a b = some (a * b / 18446744073709551616, a * b % 18446744073709551616) := by
  unfold wide_Mul.f
  rw [and32 a ha0 ha1, and32 b hb0 hb1]
  obtain ⟨x, hx⟩ : ∃ x, a / 4294967296 = x := ⟨_, rfl⟩
  obtain ⟨y, hy⟩ : ∃ y, a % 4294967296 = y := ⟨_, rfl⟩
  obtain ⟨p, hp⟩ : ∃ p, b / 4294967296 = p := ⟨_, rfl⟩
  obtain ⟨q, hq⟩ : ∃ q, b % 4294967296 = q := ⟨_, rfl⟩
  have ea : a = x * 4294967296 + y := by omega
  have eb : b = p * 4294967296 + q := by omega
  have hm := mul_parts x y p q
  rw [← ea, ← eb] at hm
  rw [hx, hy, hp, hq]
  have b1 := mul_bd (x := x) (q := p) (by omega) (by omega) (by omega) (by omega)
  have b2 := mul_bd (x := x) (q := q) (by omega) (by omega) (by omega) (by omega)
  have b3 := mul_bd (x := y) (q := p) (by omega) (by omega) (by omega) (by omega)
  have b4 := mul_bd (x := y) (q := q) (by omega) (by omega) (by omega) (by omega)
  have b5 := prod_bd ha0 ha1 hb0 hb1
  clear hx hy hp hq ea eb
  generalize x * p = A at *
  generalize x * q = B at *
  generalize y * p = C at *
  generalize y * q = D at *
  generalize a * b = P at *
  have w1 : IntKind.u64.wrap A = A := wid (by omega) (by omega)
  have w2 : IntKind.u64.wrap B = B := wid (by omega) (by omega)
  have w3 : IntKind.u64.wrap C = C := wid (by omega) (by omega)
  have w4 : IntKind.u64.wrap D = D := wid (by omega) (by omega)
  rw [w1, w2, w3, w4]
  have w5 : IntKind.u64.wrap (B + D / 4294967296) = B + D / 4294967296 := wid (by omega) (by omega)
  rw [w5, and32 (B + D / 4294967296) (by omega) (by omega), and32 D (by omega) (by omega)]
  have w6 : IntKind.u64.wrap (C + (B + D / 4294967296) % 4294967296) = C + (B + D / 4294967296) % 4294967296 := wid (by omega) (by omega)
  rw [w6]
  have w7 : IntKind.u64.wrap (A + (B + D / 4294967296) / 4294967296) = A + (B + D / 4294967296) / 4294967296 := wid (by omega) (by omega)
  rw [w7]
  have w8 : IntKind.u64.wrap (A + (B + D / 4294967296) / 4294967296 + (C + (B + D / 4294967296) % 4294967296) / 4294967296) = P / 18446744073709551616 := by rw [wu]; omega
  rw [w8]
  have w9 : IntKind.u64.wrap ((C + (B + D / 4294967296) % 4294967296) * 4294967296) = ((C + (B + D / 4294967296) % 4294967296) % 4294967296) * 4294967296 := by rw [wu]; omega
  rw [w9, or32 _ _ (by omega) (by omega) (by omega) (by omega) (by omega)]
  have w10 : (C + (B + D / 4294967296) % 4294967296) % 4294967296 * 4294967296 + D % 4294967296 = P % 18446744073709551616 := by omega
  rw [w10]
theorem add (h l m : Int) (hh0 : 0 ≤ h) (hh1 : h < 18446744073709551616) (hl0 : 0 ≤ l) (hl1 : l < 18446744073709551616) (hm0 : 0 ≤ m) (hm1 : m < 18446744073709551616) :
    wide_Add.f h l m = some ((h + (l + m) / 18446744073709551616) % 18446744073709551616, (l + m) % 18446744073709551616) := by
  unfold wide_Add.f
  simp only [wu]
  by_cases c : (l + m) % 18446744073709551616 < m
  · rw [if_pos c]
    have : (l + m) / 18446744073709551616 = 1 := by omega
    rw [this]
  · rw [if_neg c]
    have : (l + m) / 18446744073709551616 = 0 := by omega
    rw [this, Int.add_zero, Int.emod_eq_of_lt hh0 hh1]
theorem div (h l d : Int) (hh0 : 0 ≤ h) (hl0 : 0 ≤ l) (hl1 : l < 18446744073709551616) (hd1 : d < 18446744073709551616) :
    wide_Div.f h l d = if d ≤ h then some (0, 0, false) else some ((h * 18446744073709551616 + l) / d, (h * 18446744073709551616 + l) % d, true) := by
  unfold wide_Div.f; rw [if_pos ⟨hh0, hl0, by omega, by omega⟩]; rfl
def scl (P d : Int) : Int := if d ≤ P / 18446744073709551616 then 18446744073709551615 else P / d
theorem scale (a b d : Int) (ha0 : 0 ≤ a) (ha1 : a < 18446744073709551616) (hb0 : 0 ≤ b) (hb1 : b < 18446744073709551616) (hd1 : d < 18446744073709551616) :
    wide_Scale.f a b d = some (scl (a * b) d) := by
  have bd := prod_bd ha0 ha1 hb0 hb1
  unfold wide_Scale.f scl
  rw [mul a b ha0 ha1 hb0 hb1]; simp only [Option.bind_some]
  rw [div _ _ _ (by omega) (by omega) (by omega) hd1]
  have e : a * b / 18446744073709551616 * 18446744073709551616 + a * b % 18446744073709551616 = a * b := by omega
  by_cases c : d ≤ a * b / 18446744073709551616
  · rw [if_pos c, if_pos c]; rfl
  · rw [if_neg c, if_neg c, e]; rfl

theorem radd (h l m : Int) (hh0 : 0 ≤ h) (hh1 : h < 18446744073709551616) (hl0 : 0 ≤ l) (hl1 : l < 18446744073709551616) (hm0 : 0 ≤ m) (hm1 : m < 18446744073709551616) :
    turnspitref01_Add.f h l m = some ((h + (l + m) / 18446744073709551616) % 18446744073709551616, (l + m) % 18446744073709551616) := by
  unfold turnspitref01_Add.f
  simp only [wu]
  by_cases c : (l + m) % 18446744073709551616 < l
  · rw [if_pos c]
    have : (l + m) / 18446744073709551616 = 1 := by omega
    rw [this]
  · rw [if_neg c]
    have : (l + m) / 18446744073709551616 = 0 := by omega
    rw [this, Int.add_zero, Int.emod_eq_of_lt hh0 hh1]
theorem rdouble (h l : Int) (hh0 : 0 ≤ h) (hh1 : 2 * h + 1 < 18446744073709551616) (hl0 : 0 ≤ l) (hl1 : l < 18446744073709551616) :
    turnspitref01_double.f h l 0 = some (2 * h + l / 9223372036854775808, 2 * l % 18446744073709551616) := by
  unfold turnspitref01_double.f
  rw [Int.tdiv_eq_ediv_of_nonneg hl0]; simp only [wu]; congr 2
  · omega
  · omega
theorem shr_is (a : Int) (n : Nat) (hn : n ≤ 64) : shr .u64 a (n : Int) = a / 2 ^ n := by
  unfold shr; simp [IntKind.bits]; rw [Nat.min_eq_left hn]
theorem half (a : Int) (ha0 : 0 ≤ a) (n : Nat) : a / 2 ^ n = 2 * (a / 2 ^ (n + 1)) + a / 2 ^ n % 2 := by
  have hp : (0 : Int) < 2 ^ n := Int.pow_pos (by decide)
  rw [Int.pow_succ, ← Int.ediv_ediv_of_nonneg (Int.le_of_lt hp)]; omega
theorem rmul (a b : Int) (ha0 : 0 ≤ a) (ha1 : a < 18446744073709551616) (hb0 : 0 ≤ b) (hb1 : b < 18446744073709551616) (n : Nat) :
    ∀ (k : Nat) (h l : Int), n ≤ 64 → n < k → 0 ≤ h → 0 ≤ l → l < 18446744073709551616 → h * 18446744073709551616 + l = a / 2 ^ n * b →
      turnspitref01_Mul.l0 k a b h l ((n : Int) - 1) = some (a * b / 18446744073709551616, a * b % 18446744073709551616) := by
  induction n with
  | zero =>
    intro k h l _ hk hh0 hl0 hl1 hv
    obtain ⟨k, rfl⟩ : ∃ m, k = m + 1 := ⟨k - 1, by omega⟩
    simp only [turnspitref01_Mul.l0]
    rw [if_neg (by omega)]
    simp at hv
    rw [← hv]; congr 2 <;> omega
  | succ n ih =>
    intro k h l hn hk hh0 hl0 hl1 hv
    obtain ⟨k, rfl⟩ : ∃ m, k = m + 1 := ⟨k - 1, by omega⟩
    have hq0 : 0 ≤ a / 2 ^ n := Int.ediv_nonneg ha0 (Int.le_of_lt (Int.pow_pos (by decide)))
    have hq1 : a / 2 ^ n ≤ a := Int.ediv_le_self _ ha0
    have bd := prod_bd hq0 (by omega) hb0 hb1
    have hh := half a ha0 n
    have hbit0 : 0 ≤ a / 2 ^ n % 2 := by omega
    have hbit1 : a / 2 ^ n % 2 ≤ 1 := by omega
    have hval : a / 2 ^ n * b = 2 * (h * 18446744073709551616 + l) + a / 2 ^ n % 2 * b := by
      rw [hv, ← Int.mul_assoc, ← Int.add_mul, ← hh]
    have hbb : 0 ≤ a / 2 ^ n % 2 * b := Int.mul_nonneg hbit0 hb0
    have e0 : (((n + 1 : Nat) : Int) - 1) = n := by omega
    simp only [turnspitref01_Mul.l0]
    rw [e0, if_pos (by omega), rdouble h l hh0 (by omega) hl0 hl1]; simp only [Option.bind_some]
    rw [if_pos (by omega), shr_is a n (by omega), Int.tmod_eq_emod_of_nonneg hq0]
    have ew : wrap64 ((n : Int) - 1) = (n : Int) - 1 := by unfold wrap64; omega
    rw [ew]
    by_cases c : a / 2 ^ n % 2 = 1
    · rw [c, Int.one_mul] at hval
      rw [if_pos c, radd _ _ _ (by omega) (by omega) (by omega) (by omega) hb0 hb1]; simp only [Option.bind_some]
      exact ih k _ _ (by omega) (by omega) (by omega) (by omega) (by omega) (by omega)
    · have c0 : a / 2 ^ n % 2 = 0 := by omega
      rw [c0, Int.zero_mul] at hval
      rw [if_neg c]
      exact ih k _ _ (by omega) (by omega) (by omega) (by omega) (by omega) (by omega)
theorem rMul (a b : Int) (ha0 : 0 ≤ a) (ha1 : a < 18446744073709551616) (hb0 : 0 ≤ b) (hb1 : b < 18446744073709551616) :
    turnspitref01_Mul.f 66 a b = some (a * b / 18446744073709551616, a * b % 18446744073709551616) := by
  unfold turnspitref01_Mul.f
  have e : a / 2 ^ 64 = 0 := Int.ediv_eq_zero_of_lt ha0 (by simpa using ha1)
  have e63 : ((64 : Nat) : Int) - 1 = 63 := by decide
  have h := rmul a b ha0 ha1 hb0 hb1 64 66 0 0 (by decide) (by decide) (by decide) (by decide) (by decide) (by rw [e, Int.zero_mul, Int.zero_mul]; rfl)
  rw [e63] at h
  exact h
theorem rdiv (h l d : Int) (hh0 : 0 ≤ h) (hl0 : 0 ≤ l) (hl1 : l < 18446744073709551616) (hd0 : 0 < d) (hd1 : d < 18446744073709551616) (hlt : h < d) (n : Nat) :
    ∀ (k : Nat), n ≤ 64 → n < k →
      turnspitref01_Div.l0 k l d (num h (bitsOf l (64 - n)) % d) (num h (bitsOf l (64 - n)) / d) ((n : Int) - 1) = some ((h * 18446744073709551616 + l) / d, (h * 18446744073709551616 + l) % d, true) := by
  induction n with
  | zero =>
    intro k _ hk
    obtain ⟨k, rfl⟩ : ∃ m, k = m + 1 := ⟨k - 1, by omega⟩
    simp only [turnspitref01_Div.l0]
    rw [if_neg (by omega), num_all h l hl0 hl1]
  | succ n ih =>
    intro k hn hk
    obtain ⟨k, rfl⟩ : ∃ m, k = m + 1 := ⟨k - 1, by omega⟩
    have e0 : (((n + 1 : Nat) : Int) - 1) = n := by omega
    have ew : wrap64 ((n : Int) - 1) = (n : Int) - 1 := by unfold wrap64; omega
    have hs : num h (bitsOf l (64 - n)) = 2 * num h (bitsOf l (64 - (n + 1))) + l / 2 ^ n % 2 := by
      have e1 : 64 - n = (64 - (n + 1)) + 1 := by omega
      have e2 : 63 - (64 - (n + 1)) = n := by omega
      have e3 : (bit l (64 - (n + 1))).1 = l / 2 ^ n % 2 := by
        show l / 2 ^ (63 - (64 - (n + 1))) % 2 = l / 2 ^ n % 2
        rw [e2]
      rw [e1, bitsOf_succ, num_snoc, e3]
    have q1 := quot_hi hd0 hlt (bitsOf l (64 - (n + 1))) (by rw [bitsOf_length]; omega)
    have hk' := ih k (by omega) (by omega)
    rw [hs] at hk'
    have lo := num_lo h hh0 (bitsOf l (64 - (n + 1)))
    generalize num h (bitsOf l (64 - (n + 1))) = V at *
    have q0 : 0 ≤ V / d := Int.ediv_nonneg lo (by omega)
    have r0 : 0 ≤ V % d := Int.emod_nonneg _ (by omega)
    have r1 : V % d < d := Int.emod_lt_of_pos _ hd0
    have hb0 : 0 ≤ l / 2 ^ n % 2 := by omega
    have hb1 : l / 2 ^ n % 2 ≤ 1 := by omega
    have hy := fun g => @step_yes V (l / 2 ^ n % 2) d hd0 hb0 hb1 g
    have hnn := fun g => @step_no V (l / 2 ^ n % 2) d hd0 hb0 g
    have hsq0 : 0 ≤ l / 2 ^ n := Int.ediv_nonneg hl0 (Int.le_of_lt (Int.pow_pos (by decide)))
    simp only [turnspitref01_Div.l0]
    rw [e0, ew, if_pos (by omega), if_pos (by omega), shr_is l n (by omega), Int.tmod_eq_emod_of_nonneg hsq0]
    simp only [wu]
    generalize l / 2 ^ n % 2 = x at *
    generalize V / d = q at *
    generalize V % d = r at *
    by_cases c : r ≥ 9223372036854775808
    · rw [if_pos c]
      obtain ⟨f1, f2⟩ := hy (by omega)
      have g1 : ((r * 2 % 18446744073709551616 + x) % 18446744073709551616 - d) % 18446744073709551616 = (2 * V + x) % d := by rw [f2]; omega
      have g2 : (q * 2 % 18446744073709551616 + 1) % 18446744073709551616 = (2 * V + x) / d := by rw [f1]; omega
      rw [g1, g2]; exact hk'
    · rw [if_neg c]
      have g0 : (r * 2 % 18446744073709551616 + x) % 18446744073709551616 = 2 * r + x := by omega
      rw [g0]
      by_cases c2 : 2 * r + x ≥ d
      · rw [if_pos c2]
        obtain ⟨f1, f2⟩ := hy (by omega)
        have g1 : (2 * r + x - d) % 18446744073709551616 = (2 * V + x) % d := by rw [f2]; omega
        have g2 : (q * 2 % 18446744073709551616 + 1) % 18446744073709551616 = (2 * V + x) / d := by rw [f1]; omega
        rw [g1, g2]; exact hk'
      · rw [if_neg c2]
        obtain ⟨f1, f2⟩ := hnn (by omega)
        have g1 : 2 * r + x = (2 * V + x) % d := by rw [f2]
        have g2 : q * 2 % 18446744073709551616 = (2 * V + x) / d := by rw [f1]; omega
        rw [g1, g2]; exact hk'
theorem rDiv (h l d : Int) (hh0 : 0 ≤ h) (hl0 : 0 ≤ l) (hl1 : l < 18446744073709551616) (hd0 : 0 ≤ d) (hd1 : d < 18446744073709551616) :
    turnspitref01_Div.f 67 h l d = if d ≤ h then some (0, 0, false) else some ((h * 18446744073709551616 + l) / d, (h * 18446744073709551616 + l) % d, true) := by
  unfold turnspitref01_Div.f
  by_cases z : d = 0
  · rw [if_pos z, if_pos (by omega)]; rfl
  · rw [if_neg z]
    by_cases c : d ≤ h
    · rw [if_pos c, decide_eq_true (by omega)]; rfl
    · rw [if_neg c, decide_eq_false (by omega)]
      have := rdiv h l d hh0 hl0 hl1 (by omega) hd1 (by omega) 64 66 (by omega) (by omega)
      have e1 : num h (bitsOf l (64 - 64)) = h := rfl
      have e63 : ((64 : Nat) : Int) - 1 = 63 := by decide
      rw [e63, e1, Int.emod_eq_of_lt hh0 (by omega), Int.ediv_eq_zero_of_lt hh0 (by omega)] at this
      exact this
theorem rScale (a b d : Int) (ha0 : 0 ≤ a) (ha1 : a < 18446744073709551616) (hb0 : 0 ≤ b) (hb1 : b < 18446744073709551616) (hd0 : 0 ≤ d) (hd1 : d < 18446744073709551616) :
    turnspitref01_Scale.f 67 a b d = some (scl (a * b) d) := by
  have bd := prod_bd ha0 ha1 hb0 hb1
  have m : turnspitref01_Mul.f 67 a b = some (a * b / 18446744073709551616, a * b % 18446744073709551616) := at_rounds (g := fun k => turnspitref01_Mul.f k a b) (fun k => turnspitref01_Mul.mono a b k) (show 66 ≤ 67 by omega) (rMul a b ha0 ha1 hb0 hb1)
  unfold turnspitref01_Scale.f scl
  rw [m]; simp only [Option.bind_some]
  rw [rDiv _ _ _ (by omega) (by omega) (by omega) hd0 hd1]
  have e : a * b / 18446744073709551616 * 18446744073709551616 + a * b % 18446744073709551616 = a * b := by omega
  by_cases c : d ≤ a * b / 18446744073709551616
  · rw [if_pos c, if_pos c]; rfl
  · rw [if_neg c, if_neg c, e]; rfl
theorem WideTells : turnspitlaw01_WideTells.Pure := by
  intro a b c ha hb hc
  have ga := wfu ha; have gb := wfu hb; have gc := wfu hc
  refine ⟨67, ?_⟩
  have m : turnspitref01_Mul.f 67 a b = some (a * b / 18446744073709551616, a * b % 18446744073709551616) := at_rounds (g := fun k => turnspitref01_Mul.f k a b) (fun k => turnspitref01_Mul.mono a b k) (show 66 ≤ 67 by omega) (rMul a b ga.1 ga.2 gb.1 gb.2)
  unfold turnspitlaw01_WideTells.f
  rw [mul a b ga.1 ga.2 gb.1 gb.2, m, add a b c ga.1 ga.2 gb.1 gb.2 gc.1 gc.2, radd a b c ga.1 ga.2 gb.1 gb.2 gc.1 gc.2, div a b c ga.1 gb.1 gb.2 gc.2, rDiv a b c ga.1 gb.1 gb.2 gc.1 gc.2, awk,
    scale a b c ga.1 ga.2 gb.1 gb.2 gc.2, rScale a b c ga.1 ga.2 gb.1 gb.2 gc.1 gc.2]
  by_cases d : c ≤ a
  · rw [if_pos d]; simp
  · rw [if_neg d]; simp

end Go.Proofs.Ytlchbjpgcjmplaa.Pure
