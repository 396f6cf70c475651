/- Parts of the proof, joined: TD. -/
import Derived.Test.YtnkhnnojdlgfjaaDoorUF32
import Derived.Test.YtnkhnnojdlgfjaaDoorUF34
namespace Go.Proofs.YtnkhnnojdlgfjaaDoor.TW
open Go.RowKit Go Go.Proofs Go.Proofs.YtnkhnnojdlgfjaaDoor Go.Proofs.YtnkhnnojdlgfjaaDoor.WideMath Go.Proofs.YtnkhnnojdlgfjaaDoor.Qu Go.Proofs.YtnkhnnojdlgfjaaDoor.Tm Go.Proofs.YtnkhnnojdlgfjaaDoor.Tk Go.Proofs.YtnkhnnojdlgfjaaDoorW.PrintWords
set_option linter.unusedVariables false
set_option linter.unusedSimpArgs false
theorem prod_bd {a b : Int} (ha0 : 0 ≤ a) (ha1 : a < 18446744073709551616) (hb0 : 0 ≤ b) (hb1 : b < 18446744073709551616) : 0 ≤ a * b ∧ a * b ≤ 340282366920938463426481119284349108225 := by
  refine ⟨Int.mul_nonneg ha0 hb0, ?_⟩
  have h := Int.mul_le_mul (show a ≤ 18446744073709551615 by omega) (show b ≤ 18446744073709551615 by omega) hb0 (by decide)
  simpa using h
theorem mul (a b : Int) (ha0 : 0 ≤ a) (ha1 : a < 18446744073709551616) (hb0 : 0 ≤ b) (hb1 : b < 18446744073709551616) :
    wide_Mul.f a b = some (a * b / 18446744073709551616, a * b % 18446744073709551616) := by
  unfold wide_Mul.f
  rw [and32 a ha0 ha1, and32 b hb0 hb1]
  obtain ⟨x, hx⟩ : ∃ x, a / 4294967296 = x := ⟨_, rfl⟩
  obtain ⟨y, hy⟩ : ∃ y, a % 4294967296 = y := ⟨_, rfl⟩
  obtain ⟨p, hp⟩ : ∃ p, b / 4294967296 = p := ⟨_, rfl⟩
  obtain ⟨q, hq⟩ : ∃ q, b % 4294967296 = q := ⟨_, rfl⟩
  have ea : a = x * 4294967296 + y := by omega
  have eb : b = p * 4294967296 + q := by omega
  have hm := mul_parts x y p q
  rw [← ea, ← eb] at hm
  rw [hx, hy, hp, hq]
  have b1 := mul_bd (x := x) (q := p) (by omega) (by omega) (by omega) (by omega)
  have b2 := mul_bd (x := x) (q := q) (by omega) (by omega) (by omega) (by omega)
  have b3 := mul_bd (x := y) (q := p) (by omega) (by omega) (by omega) (by omega)
  have b4 := mul_bd (x := y) (q := q) (by omega) (by omega) (by omega) (by omega)
  have b5 := prod_bd ha0 ha1 hb0 hb1
  clear hx hy hp hq ea eb
  generalize x * p = A at *
  generalize x * q = B at *
  generalize y * p = C at *
  generalize y * q = D at *
  generalize a * b = P at *
  have w1 : IntKind.u64.wrap A = A := wid (by omega) (by omega)
  have w2 : IntKind.u64.wrap B = B := wid (by omega) (by omega)
  have w3 : IntKind.u64.wrap C = C := wid (by omega) (by omega)
  have w4 : IntKind.u64.wrap D = D := wid (by omega) (by omega)
  rw [w1, w2, w3, w4]
  have w5 : IntKind.u64.wrap (B + D / 4294967296) = B + D / 4294967296 := wid (by omega) (by omega)
  rw [w5, and32 (B + D / 4294967296) (by omega) (by omega), and32 D (by omega) (by omega)]
  have w6 : IntKind.u64.wrap (C + (B + D / 4294967296) % 4294967296) = C + (B + D / 4294967296) % 4294967296 := wid (by omega) (by omega)
  rw [w6]
  have w7 : IntKind.u64.wrap (A + (B + D / 4294967296) / 4294967296) = A + (B + D / 4294967296) / 4294967296 := wid (by omega) (by omega)
  rw [w7]
  have w8 : IntKind.u64.wrap (A + (B + D / 4294967296) / 4294967296 + (C + (B + D / 4294967296) % 4294967296) / 4294967296) = P / 18446744073709551616 := by rw [wu]; omega
  rw [w8]
  have w9 : IntKind.u64.wrap ((C + (B + D / 4294967296) % 4294967296) * 4294967296) = ((C + (B + D / 4294967296) % 4294967296) % 4294967296) * 4294967296 := by rw [wu]; omega
  rw [w9, or32 _ _ (by omega) (by omega) (by omega) (by omega) (by omega)]
  have w10 : (C + (B + D / 4294967296) % 4294967296) % 4294967296 * 4294967296 + D % 4294967296 = P % 18446744073709551616 := by omega
  rw [w10]
theorem div (h l d : Int) (hh0 : 0 ≤ h) (hl0 : 0 ≤ l) (hl1 : l < 18446744073709551616) (hd1 : d < 18446744073709551616) :
    wide_Div.f h l d = if d ≤ h then some (0, 0, false) else some ((h * 18446744073709551616 + l) / d, (h * 18446744073709551616 + l) % d, true) := by
  unfold wide_Div.f; rw [if_pos ⟨hh0, hl0, by omega, by omega⟩]; rfl
def scl (P d : Int) : Int := if d ≤ P / 18446744073709551616 then 18446744073709551615 else P / d
theorem scale (a b d : Int) (ha0 : 0 ≤ a) (ha1 : a < 18446744073709551616) (hb0 : 0 ≤ b) (hb1 : b < 18446744073709551616) (hd1 : d < 18446744073709551616) :
    wide_Scale.f a b d = some (scl (a * b) d) := by
  have bd := prod_bd ha0 ha1 hb0 hb1
  unfold wide_Scale.f scl
  rw [mul a b ha0 ha1 hb0 hb1]; simp only [Option.bind_some]
  rw [div _ _ _ (by omega) (by omega) (by omega) hd1]
  have e : a * b / 18446744073709551616 * 18446744073709551616 + a * b % 18446744073709551616 = a * b := by omega
  by_cases c : d ≤ a * b / 18446744073709551616
  · rw [if_pos c, if_pos c]; rfl
  · rw [if_neg c, if_neg c, e]; rfl
theorem delta (d w : Int) (h0 : 0 ≤ d) (h1 : d ≤ 1099511627776) (w0 : 1 ≤ w) (w1 : w ≤ 88761) : weight_Delta.f d w = some (deltaA d w, 0) := by
  unfold weight_Delta.f deltaA
  rw [if_neg (by omega), if_neg (by omega), wid (n := d) (by omega) (by omega), wid (n := w) (by omega) (by omega), scale d 1024 w (by omega) (by omega) (by omega) (by omega) (by omega), Option.bind_some]
  have e : scl (d * 1024) w = d * 1024 / w := by
    unfold scl
    rw [if_neg (by omega)]
  rw [e]
  have h2 : 0 ≤ d * 1024 / w := Int.ediv_nonneg (by omega) (by omega)
  generalize d * 1024 / w = m at *
  have e2 : wrap64 (mn m 281474976710656) = if 281474976710656 < m then 281474976710656 else m := by
    unfold mn
    rw [wr64]
    repeat' split
    all_goals omega
  rw [e2]
theorem delta_ (d w : Int) (h0 : 0 ≤ d) (h1 : d ≤ 1099511627776) (w0 : 1 ≤ w) (w1 : w ≤ 88761) (W : World) : Calls Tryd.prog 39 #[.int .i64 d, .int .i64 w] W fun e w' => e = .returned (.tuple #[.int .i64 (deltaA d w), .int .i64 0]) ∧ Below W.heap.size W w' := by
  refine (weight_Delta.calls d w (deltaA d w) 0 W (delta d w h0 h1 w0 w1)).mono ?_
  rintro e w' ⟨rfl, hb⟩
  exact ⟨rfl, hb⟩
theorem step_f (v mn d : Int) (h0 : 0 ≤ d) (h1 : d ≤ 281474976710656) (h2 : lagf mn v ≤ 1125899906842624) : turn_Step.f v mn d = some (stepA v mn d) := by
  unfold turn_Step.f turn_Lag.f
  rw [Option.bind_some]
  show (if d < 1 then some v else if lagf mn v ≥ 1125899906842624 then some v else _) = _
  unfold stepA
  by_cases c : d < 1
  · rw [if_pos c, if_pos (Or.inl c)]
  · rw [if_neg c]
    by_cases c2 : lagf mn v ≥ 1125899906842624
    · rw [if_pos c2, if_pos (Or.inr c2)]
    · rw [if_neg c2, if_neg (by omega)]
      unfold turn_between_uint64.f
      rw [wid (n := d) (by omega) (by omega), if_neg (by omega)]
      unfold lagf
      generalize IntKind.u64.wrap (1125899906842624 - IntKind.u64.wrap (wrap64 (IntKind.u64.wrap (v - mn)))) = m
      by_cases c3 : m < d
      · rw [if_pos (show d > m from c3), if_pos c3]; rfl
      · rw [if_neg (show ¬ d > m from c3), if_neg c3]; rfl
theorem step_ (v mn d : Int) (h0 : 0 ≤ d) (h1 : d ≤ 281474976710656) (h2 : lagf mn v ≤ 1125899906842624) (W : World) : Calls Tryd.prog 40 #[.int .u64 v, .int .u64 mn, .int .i64 d] W fun e w' => e = .returned (.int .u64 (stepA v mn d)) ∧ Below W.heap.size W w' := by
  refine (turn_Step.calls v mn d (stepA v mn d) W (step_f v mn d h0 h1 h2)).mono ?_
  rintro e w' ⟨rfl, hb⟩
  first | exact ⟨rfl, hb.below⟩ | exact ⟨rfl, hb⟩
end Go.Proofs.YtnkhnnojdlgfjaaDoor.TW
