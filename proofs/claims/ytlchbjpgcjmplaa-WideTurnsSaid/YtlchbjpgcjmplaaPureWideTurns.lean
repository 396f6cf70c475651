/- Factors may be turned, and a factor be parted in two. For every input of the given kinds; no condition. -/
import Derived.Test.YtlchbjpgcjmplaaQWideTurnsx1
import Derived.Test.YtlchbjpgcjmplaaMath
namespace Go.Proofs.Ytlchbjpgcjmplaa.Pure
set_option linter.unusedSimpArgs false
set_option linter.unusedVariables false
open Go.RowKit Go.Proofs.Ytlchbjpgcjmplaa.QWideTurns Go.Proofs.YtlchbjpgcjmplaaW.PrintWords Go.Proofs.YtlchbjpgcjmplaaW.PrintLast Go.Proofs.YtlchbjpgcjmplaaW.PrintMore Go.Proofs.Ytlchbjpgcjmplaa.WideMath

theorem wfu {n : Int} (h : (Lit.int .u64 n).wf = true) : 0 ≤ n ∧ n < 18446744073709551616 := by
  simp [Lit.wf, IntKind.min, IntKind.max, IntKind.signed, IntKind.bits] at h; omega
theorem awk : turnspitlaw01_awake.f = some true := by decide +kernel
theorem prod_bd {a b : Int} (ha0 : 0 ≤ a) (ha1 : a < 18446744073709551616) (hb0 : 0 ≤ b) (hb1 : b < 18446744073709551616) : 0 ≤ a * b ∧ a * b ≤ 340282366920938463426481119284349108225 := by
  refine ⟨Int.mul_nonneg ha0 hb0, ?_⟩
  have h := Int.mul_le_mul (show a ≤ 18446744073709551615 by omega) (show b ≤ 18446744073709551615 by omega) hb0 (by decide)
  simpa using h
theorem mul (a b : Int) (ha0 : 0 ≤ a) (ha1 : a < 18446744073709551616) (hb0 : 0 ≤ b) (hb1 : b < 18446744073709551616) :
    wide_Mul.f a b = some (a * b / 18446744073709551616, a * b % 18446744073709551616) := by
  unfold wide_Mul.f
  rw [and32 a ha0 ha1, and32 b hb0 hb1]
  obtain ⟨x, hx⟩ : ∃ x, a / 4294967296 = x := ⟨_, rfl⟩
  obtain ⟨y, hy⟩ : ∃ y, a % 4294967296 = y := ⟨_, rfl⟩
  obtain ⟨p, hp⟩ : ∃ p, b / 4294967296 = p := ⟨_, rfl⟩
  obtain ⟨q, hq⟩ : ∃ q, b % 4294967296 = q := ⟨_, rfl⟩
  have ea : a = x * 4294967296 + y := by omega
  have eb : b = p * 4294967296 + q := by omega
  have hm := mul_parts x y p q
  rw [← ea, ← eb] at hm
  rw [hx, hy, hp, hq]
  have b1 := mul_bd (x := x) (q := p) (by omega) (by omega) (by omega) (by omega)
  have b2 := mul_bd (x := x) (q := q) (by omega) (by omega) (by omega) (by omega)
  have b3 := mul_bd (x := y) (q := p) (by omega) (by omega) (by omega) (by omega)
  have b4 := mul_bd (x := y) (q := q) (by omega) (by omega) (by omega) (by omega)
  have b5 := prod_bd ha0 ha1 hb0 hb1
  clear hx hy hp hq ea eb
  generalize x * p = A at *
  generalize x * q = B at *
  generalize y * p = C at *
  generalize y * q = D at *
  generalize a * b = P at *
  have w1 : IntKind.u64.wrap A = A := wid (by omega) (by omega)
  have w2 : IntKind.u64.wrap B = B := wid (by omega) (by omega)
  have w3 : IntKind.u64.wrap C = C := wid (by omega) (by omega)
  have w4 : IntKind.u64.wrap D = D := wid (by omega) (by omega)
  rw [w1, w2, w3, w4]
  have w5 : IntKind.u64.wrap (B + D / 4294967296) = B + D / 4294967296 := wid (by omega) (by omega)
  rw [w5, and32 (B + D / 4294967296) (by omega) (by omega), and32 D (by omega) (by omega)]
  have w6 : IntKind.u64.wrap (C + (B + D / 4294967296) % 4294967296) = C + (B + D / 4294967296) % 4294967296 := wid (by omega) (by omega)
  rw [w6]
  have w7 : IntKind.u64.wrap (A + (B + D / 4294967296) / 4294967296) = A + (B + D / 4294967296) / 4294967296 := wid (by omega) (by omega)
  rw [w7]
  have w8 : IntKind.u64.wrap (A + (B + D / 4294967296) / 4294967296 + (C + (B + D / 4294967296) % 4294967296) / 4294967296) = P / 18446744073709551616 := by rw [wu]; omega
  rw [w8]
  have w9 : IntKind.u64.wrap ((C + (B + D / 4294967296) % 4294967296) * 4294967296) = ((C + (B + D / 4294967296) % 4294967296) % 4294967296) * 4294967296 := by rw [wu]; omega
  rw [w9, or32 _ _ (by omega) (by omega) (by omega) (by omega) (by omega)]
  have w10 : (C + (B + D / 4294967296) % 4294967296) % 4294967296 * 4294967296 + D % 4294967296 = P % 18446744073709551616 := by omega
  rw [w10]
theorem add (h l m : Int) (hh0 : 0 ≤ h) (hh1 : h < 18446744073709551616) (hl0 : 0 ≤ l) (hl1 : l < 18446744073709551616) (hm0 : 0 ≤ m) (hm1 : m < 18446744073709551616) :
    wide_Add.f h l m = some ((h + (l + m) / 18446744073709551616) % 18446744073709551616, (l + m) % 18446744073709551616) := by
  unfold wide_Add.f
  simp only [wu]
  by_cases c : (l + m) % 18446744073709551616 < m
  · rw [if_pos c]
    have : (l + m) / 18446744073709551616 = 1 := by omega
    rw [this]
  · rw [if_neg c]
    have : (l + m) / 18446744073709551616 = 0 := by omega
    rw [this, Int.add_zero, Int.emod_eq_of_lt hh0 hh1]
theorem div (h l d : Int) (hh0 : 0 ≤ h) (hl0 : 0 ≤ l) (hl1 : l < 18446744073709551616) (hd1 : d < 18446744073709551616) :
    wide_Div.f h l d = if d ≤ h then some (0, 0, false) else some ((h * 18446744073709551616 + l) / d, (h * 18446744073709551616 + l) % d, true) := by
  unfold wide_Div.f; rw [if_pos ⟨hh0, hl0, by omega, by omega⟩]; rfl
def scl (P d : Int) : Int := if d ≤ P / 18446744073709551616 then 18446744073709551615 else P / d
theorem scale (a b d : Int) (ha0 : 0 ≤ a) (ha1 : a < 18446744073709551616) (hb0 : 0 ≤ b) (hb1 : b < 18446744073709551616) (hd1 : d < 18446744073709551616) :
    wide_Scale.f a b d = some (scl (a * b) d) := by
  have bd := prod_bd ha0 ha1 hb0 hb1
  unfold wide_Scale.f scl
  rw [mul a b ha0 ha1 hb0 hb1]; simp only [Option.bind_some]
  rw [div _ _ _ (by omega) (by omega) (by omega) hd1]
  have e : a * b / 18446744073709551616 * 18446744073709551616 + a * b % 18446744073709551616 = a * b := by omega
  by_cases c : d ≤ a * b / 18446744073709551616
  · rw [if_pos c, if_pos c]; rfl
  · rw [if_neg c, if_neg c, e]; rfl

theorem and_le (a b : Int) (ha0 : 0 ≤ a) (ha1 : a < 18446744073709551616) (hb0 : 0 ≤ b) (hb1 : b < 18446744073709551616) : 0 ≤ Go.bits .and .u64 a b ∧ Go.bits .and .u64 a b ≤ a := by
  obtain ⟨x, rfl⟩ := Int.eq_ofNat_of_zero_le ha0
  obtain ⟨y, rfl⟩ := Int.eq_ofNat_of_zero_le hb0
  rw [(bits_nat .u64 64 (by decide) wids x y (by omega) (by omega)).1]
  have := Nat.and_le_left (n := x) (m := y)
  omega
theorem turn_arith {P P1 P2 : Int} (e : P = P1 + P2) (h1 : 0 ≤ P1) (h2 : 0 ≤ P2) (hP : P < 340282366920938463463374607431768211456) :
    ((P1 / 18446744073709551616 + (P1 % 18446744073709551616 + P2 % 18446744073709551616) / 18446744073709551616) % 18446744073709551616 + P2 / 18446744073709551616) % 18446744073709551616 = P / 18446744073709551616 ∧
      (P1 % 18446744073709551616 + P2 % 18446744073709551616) % 18446744073709551616 = P % 18446744073709551616 := by
  obtain ⟨a1, ha1⟩ : ∃ x, P1 / 18446744073709551616 = x := ⟨_, rfl⟩
  obtain ⟨b1, hb1⟩ : ∃ x, P1 % 18446744073709551616 = x := ⟨_, rfl⟩
  obtain ⟨a2, ha2⟩ : ∃ x, P2 / 18446744073709551616 = x := ⟨_, rfl⟩
  obtain ⟨b2, hb2⟩ : ∃ x, P2 % 18446744073709551616 = x := ⟨_, rfl⟩
  have f1 : P1 = a1 * 18446744073709551616 + b1 := by omega
  have f2 : P2 = a2 * 18446744073709551616 + b2 := by omega
  have g1 : 0 ≤ b1 ∧ b1 < 18446744073709551616 := by omega
  have g2 : 0 ≤ b2 ∧ b2 < 18446744073709551616 := by omega
  have g3 : 0 ≤ a1 := by omega
  have g4 : 0 ≤ a2 := by omega
  rw [ha1, hb1, ha2, hb2]
  clear ha1 hb1 ha2 hb2
  by_cases c : b1 + b2 < 18446744073709551616
  · have q : P / 18446744073709551616 = a1 + a2 := by omega
    have q' : (b1 + b2) / 18446744073709551616 = 0 := by omega
    have q2 : a1 + a2 < 18446744073709551616 := by omega
    rw [q, q']
    exact ⟨by omega, by omega⟩
  · have q : P / 18446744073709551616 = a1 + a2 + 1 := by omega
    have q' : (b1 + b2) / 18446744073709551616 = 1 := by omega
    have q2 : a1 + a2 + 1 < 18446744073709551616 := by omega
    rw [q, q']
    exact ⟨by omega, by omega⟩
theorem WideTurns : turnspitlaw01_WideTurns.Pure := by
  intro a b c ha hb hc
  have ga := wfu ha; have gb := wfu hb; have gc := wfu hc
  unfold turnspitlaw01_WideTurns.f
  have ho := and_le b c gb.1 gb.2 gc.1 gc.2
  generalize Go.bits .and .u64 b c = o at *
  rw [awk, Option.bind_some, if_pos rfl, wid (n := b - o) (by omega) (by omega)]
  rw [mul a b ga.1 ga.2 gb.1 gb.2, Option.bind_some, mul b a gb.1 gb.2 ga.1 ga.2, Option.bind_some, mul a o ga.1 ga.2 ho.1 (by omega), Option.bind_some, mul a (b - o) ga.1 ga.2 (by omega) (by omega), Option.bind_some]
  dsimp only
  have p1 := prod_bd ga.1 ga.2 gb.1 gb.2
  have p2 := prod_bd ga.1 ga.2 ho.1 (by omega)
  have p3 := prod_bd (b := b - o) ga.1 ga.2 (by omega) (by omega)
  have e : a * b = a * o + a * (b - o) := by rw [← Int.mul_add]; congr 1; omega
  rw [Int.mul_comm b a]
  have t := turn_arith e p2.1 p3.1 (by omega)
  rw [add _ _ _ (by omega) (by omega) (by omega) (by omega) (by omega) (by omega), Option.bind_some]
  dsimp only
  rw [if_pos rfl, if_pos rfl, wu, if_pos t.1, t.2, beq_self_eq_true]

end Go.Proofs.Ytlchbjpgcjmplaa.Pure
