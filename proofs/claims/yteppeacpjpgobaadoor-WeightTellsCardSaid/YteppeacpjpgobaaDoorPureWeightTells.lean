/- The weight of any nice, the nice of any weight, and the virtual time of any time are the reference's. For every input of the given kinds; no condition. -/
import Derived.Test.YteppeacpjpgobaaDoorQWeightTellsx2
import Derived.Test.YteppeacpjpgobaaDoorMath
import Derived.Test.YteppeacpjpgobaaDoorTable
namespace Go.Proofs.YteppeacpjpgobaaDoor.Pure
set_option linter.unusedSimpArgs false
set_option linter.unusedVariables false
open Go.RowKit Go.Proofs.YteppeacpjpgobaaDoor.QWeightTells Go.Proofs.YteppeacpjpgobaaDoorW.PrintWords Go.Proofs.YteppeacpjpgobaaDoorW.PrintLast Go.Proofs.YteppeacpjpgobaaDoorW.PrintMore Go.Proofs.YteppeacpjpgobaaDoor.WideMath

theorem wfu {n : Int} (h : (Lit.int .u64 n).wf = true) : 0 ≤ n ∧ n < 18446744073709551616 := by
  simp [Lit.wf, IntKind.min, IntKind.max, IntKind.signed, IntKind.bits] at h; omega
theorem prod_bd {a b : Int} (ha0 : 0 ≤ a) (ha1 : a < 18446744073709551616) (hb0 : 0 ≤ b) (hb1 : b < 18446744073709551616) : 0 ≤ a * b ∧ a * b ≤ 340282366920938463426481119284349108225 := by
  refine ⟨Int.mul_nonneg ha0 hb0, ?_⟩
  have h := Int.mul_le_mul (show a ≤ 18446744073709551615 by omega) (show b ≤ 18446744073709551615 by omega) hb0 (by decide)
  simpa using h
theorem mul (a b : Int) (ha0 : 0 ≤ a) (ha1 : a < 18446744073709551616) (hb0 : 0 ≤ b) (hb1 : b < 18446744073709551616) :
    wide_Mul.f a b = some (a * b / 18446744073709551616, a * b % 18446744073709551616) := by
  unfold wide_Mul.f
  rw [and32 a ha0 ha1, and32 b hb0 hb1]
  obtain ⟨x, hx⟩ : ∃ x, a / 4294967296 = x := ⟨_, rfl⟩
  obtain ⟨y, hy⟩ : ∃ y, a % 4294967296 = y := ⟨_, rfl⟩
  obtain ⟨p, hp⟩ : ∃ p, b / 4294967296 = p := ⟨_, rfl⟩
  obtain ⟨q, hq⟩ : ∃ q, b % 4294967296 = q := ⟨_, rfl⟩
  have ea : a = x * 4294967296 + y := by omega
  have eb : b = p * 4294967296 + q := by omega
  have hm := mul_parts x y p q
  rw [← ea, ← eb] at hm
  rw [hx, hy, hp, hq]
  have b1 := mul_bd (x := x) (q := p) (by omega) (by omega) (by omega) (by omega)
  have b2 := mul_bd (x := x) (q := q) (by omega) (by omega) (by omega) (by omega)
  have b3 := mul_bd (x := y) (q := p) (by omega) (by omega) (by omega) (by omega)
  have b4 := mul_bd (x := y) (q := q) (by omega) (by omega) (by omega) (by omega)
  have b5 := prod_bd ha0 ha1 hb0 hb1
  clear hx hy hp hq ea eb
  generalize x * p = A at *
  generalize x * q = B at *
  generalize y * p = C at *
  generalize y * q = D at *
  generalize a * b = P at *
  have w1 : IntKind.u64.wrap A = A := wid (by omega) (by omega)
  have w2 : IntKind.u64.wrap B = B := wid (by omega) (by omega)
  have w3 : IntKind.u64.wrap C = C := wid (by omega) (by omega)
  have w4 : IntKind.u64.wrap D = D := wid (by omega) (by omega)
  rw [w1, w2, w3, w4]
  have w5 : IntKind.u64.wrap (B + D / 4294967296) = B + D / 4294967296 := wid (by omega) (by omega)
  rw [w5, and32 (B + D / 4294967296) (by omega) (by omega), and32 D (by omega) (by omega)]
  have w6 : IntKind.u64.wrap (C + (B + D / 4294967296) % 4294967296) = C + (B + D / 4294967296) % 4294967296 := wid (by omega) (by omega)
  rw [w6]
  have w7 : IntKind.u64.wrap (A + (B + D / 4294967296) / 4294967296) = A + (B + D / 4294967296) / 4294967296 := wid (by omega) (by omega)
  rw [w7]
  have w8 : IntKind.u64.wrap (A + (B + D / 4294967296) / 4294967296 + (C + (B + D / 4294967296) % 4294967296) / 4294967296) = P / 18446744073709551616 := by rw [wu]; omega
  rw [w8]
  have w9 : IntKind.u64.wrap ((C + (B + D / 4294967296) % 4294967296) * 4294967296) = ((C + (B + D / 4294967296) % 4294967296) % 4294967296) * 4294967296 := by rw [wu]; omega
  rw [w9, or32 _ _ (by omega) (by omega) (by omega) (by omega) (by omega)]
  have w10 : (C + (B + D / 4294967296) % 4294967296) % 4294967296 * 4294967296 + D % 4294967296 = P % 18446744073709551616 := by omega
  rw [w10]
theorem div (h l d : Int) (hh0 : 0 ≤ h) (hl0 : 0 ≤ l) (hl1 : l < 18446744073709551616) (hd1 : d < 18446744073709551616) :
    wide_Div.f h l d = if d ≤ h then some (0, 0, false) else some ((h * 18446744073709551616 + l) / d, (h * 18446744073709551616 + l) % d, true) := by
  unfold wide_Div.f; rw [if_pos ⟨hh0, hl0, by omega, by omega⟩]; rfl
def scl (P d : Int) : Int := if d ≤ P / 18446744073709551616 then 18446744073709551615 else P / d
theorem scale (a b d : Int) (ha0 : 0 ≤ a) (ha1 : a < 18446744073709551616) (hb0 : 0 ≤ b) (hb1 : b < 18446744073709551616) (hd1 : d < 18446744073709551616) :
    wide_Scale.f a b d = some (scl (a * b) d) := by
  have bd := prod_bd ha0 ha1 hb0 hb1
  unfold wide_Scale.f scl
  rw [mul a b ha0 ha1 hb0 hb1]; simp only [Option.bind_some]
  rw [div _ _ _ (by omega) (by omega) (by omega) hd1]
  have e : a * b / 18446744073709551616 * 18446744073709551616 + a * b % 18446744073709551616 = a * b := by omega
  by_cases c : d ≤ a * b / 18446744073709551616
  · rw [if_pos c, if_pos c]; rfl
  · rw [if_neg c, if_neg c, e]; rfl

theorem wfi {n : Int} (h : (Lit.int .i64 n).wf = true) : -9223372036854775808 ≤ n ∧ n < 9223372036854775808 := by
  simp [Lit.wf, IntKind.min, IntKind.max, IntKind.signed, IntKind.bits] at h; omega
theorem wf8 {n : Int} (h : (Lit.int .u8 n).wf = true) : 0 ≤ n ∧ n < 256 := by
  simp [Lit.wf, IntKind.min, IntKind.max, IntKind.signed, IntKind.bits] at h; omega
theorem w64 {n : Int} (h0 : -9223372036854775808 ≤ n) (h1 : n < 9223372036854775808) : wrap64 n = n := by unfold wrap64; omega
theorem awk {k : Nat} (hk : 10 ≤ k) : turnspitlaw02_awake.f k = some true :=
  at_rounds (g := fun k => turnspitlaw02_awake.f k) (fun k => turnspitlaw02_awake.mono k) hk (by decide +kernel)
/-- a nice's weight -/
def wt (a : Int) : Int := rd Table.ws (a + 20)
theorem wt_at (j : Nat) : wt ((j : Int) - 20) = Table.ws.getD j 0 := by
  unfold wt rd; rw [show (j : Int) - 20 + 20 = j by omega]; rfl
theorem nat_of {a : Int} (h0 : -20 ≤ a) (h1 : a ≤ 19) : ∃ j : Nat, j < 40 ∧ a = (j : Int) - 20 := ⟨(a + 20).toNat, by omega, by omega⟩
theorem wt_bd {a : Int} (h0 : -20 ≤ a) (h1 : a ≤ 19) : 15 ≤ wt a ∧ wt a ≤ 88761 := by
  obtain ⟨j, hj, rfl⟩ := nat_of h0 h1
  rw [wt_at]
  have : ∀ i : Fin 40, 15 ≤ Table.ws.getD i.1 0 ∧ Table.ws.getD i.1 0 ≤ 88761 := by decide
  exact this ⟨j, hj⟩
def ofv (a : Int) : Int × Int := if -20 ≤ a ∧ a ≤ 19 then (wt a, 0) else (0, 1)
theorem of_ (a : Int) : weight_Of.f a = some (ofv a) := by
  unfold weight_Of.f Table.Of.f ofv wt
  by_cases c1 : a < -20
  · rw [if_pos c1, if_neg (by omega)]
  · rw [if_neg c1]
    by_cases c2 : a > 19
    · rw [if_pos c2, if_neg (by omega)]
    · rw [if_neg c2, if_pos (by omega)]
theorem ofv_in {a : Int} (h0 : -20 ≤ a) (h1 : a ≤ 19) : ofv a = (wt a, 0) := by unfold ofv; rw [if_pos ⟨h0, h1⟩]
def dl (d w : Int) : Int × Int := if d < 0 ∨ w < 1 then (0, 1) else (mn (scl (d * 1024) w) 281474976710656, 0)
theorem dl_in {d w : Int} (h0 : 0 ≤ d) (h1 : 1 ≤ w) : dl d w = (mn (scl (d * 1024) w) 281474976710656, 0) := by unfold dl; rw [if_neg (by omega)]
theorem scl_lo {P d : Int} (h : 0 ≤ P) (hd : 0 ≤ d) : 0 ≤ scl P d := by
  unfold scl; split
  · omega
  · exact Int.ediv_nonneg h hd
theorem delta (d w : Int) (hd : d < 9223372036854775808) (hw : w < 9223372036854775808) : weight_Delta.f d w = some (dl d w) := by
  unfold weight_Delta.f dl
  by_cases c1 : d < 0
  · rw [if_pos c1, if_pos (by omega)]
  · rw [if_neg c1]
    by_cases c2 : w < 1
    · rw [if_pos c2, if_pos (by omega)]
    · rw [if_neg c2, if_neg (by omega), wid (n := d) (by omega) (by omega), wid (n := w) (by omega) (by omega), scale d 1024 w (by omega) (by omega) (by omega) (by omega) (by omega), Option.bind_some]
      have := scl_lo (P := d * 1024) (d := w) (by omega) (by omega)
      rw [w64]
      · unfold mn; split <;> omega
      · unfold mn; split <;> omega
/-- the sum of a list, on top of some -/
def sm : Int → List Int → Int × Int
  | n, [] => (n, 0)
  | n, x :: t => if -20 ≤ x ∧ x ≤ 19 then sm (n + wt x) t else (0, 1)
theorem sum_loop (l : List Int) (hl : l.length ≤ 64) (d : Nat) : ∀ (k i : Nat) (n : Int), i + d = l.length → d < k → 0 ≤ n → n ≤ 88761 * i →
    weight_Sum.l0 k n l (l.length : Int) i = some (sm n (l.drop i)) := by
  induction d with
  | zero =>
    intro k i n hi hk hn0 hn1
    obtain ⟨k, rfl⟩ : ∃ m, k = m + 1 := ⟨k - 1, by omega⟩
    simp only [weight_Sum.l0]
    rw [if_neg (by omega), List.drop_eq_nil_of_le (by omega)]; rfl
  | succ d ih =>
    intro k i n hi hk hn0 hn1
    obtain ⟨k, rfl⟩ : ∃ m, k = m + 1 := ⟨k - 1, by omega⟩
    have hlt : i < l.length := by omega
    simp only [weight_Sum.l0]
    rw [if_pos (by omega), if_pos (by omega), if_pos (by omega), of_, Option.bind_some]
    have er : rd l (i : Int) = l[i] := by unfold rd; simp [hlt]
    rw [er, List.drop_eq_getElem_cons hlt]
    unfold sm ofv
    by_cases c : -20 ≤ l[i] ∧ l[i] ≤ 19
    · have b := wt_bd c.1 c.2
      rw [if_pos c, if_pos c]
      dsimp only
      rw [if_pos rfl, w64 (by omega) (by omega), w64 (by omega) (by omega)]
      have := ih k (i + 1) (n + wt l[i]) (by omega) (by omega) (by omega) (by omega)
      rw [show ((i : Int) + 1) = ((i + 1 : Nat) : Int) by omega]
      exact this
    · rw [if_neg c, if_neg c]
      dsimp only
      rw [if_neg (by decide)]
def smf (l : List Int) : Int × Int := if l.length > 64 then (0, 2) else sm 0 l
theorem sum_ (l : List Int) (k : Nat) (hk : 66 ≤ k) : weight_Sum.f k l = some (smf l) := by
  unfold weight_Sum.f smf
  by_cases c : l.length > 64
  · rw [if_pos (by omega), if_pos c]
  · rw [if_neg (by omega), if_neg c]
    exact sum_loop l (by omega) l.length k 0 0 (by omega) (by omega) (by omega) (by omega)
theorem sm_bd : ∀ (l : List Int) (n : Int), 0 ≤ n → 0 ≤ (sm n l).1 ∧ (sm n l).1 ≤ n + 88761 * l.length := by
  intro l
  induction l with
  | nil => intro n hn; simp [sm]; omega
  | cons x t ih =>
    intro n hn
    unfold sm
    split
    · rename_i c
      have b := wt_bd c.1 c.2
      have := ih (n + wt x) (by omega)
      rw [List.length_cons]; omega
    · simp; omega
def shv (d nice : Int) (l : List Int) : Int × Int :=
  if (-20 ≤ nice ∧ nice ≤ 19) ∧ 0 ≤ d ∧ d ≤ 1099511627776 then
    (if (smf l).2 = 0 then (if (smf l).1 = 0 then (0, 1) else (Int.tdiv (d * wt nice) (smf l).1, 0)) else (0, (smf l).2)) else (0, 1)
theorem share_wrap {d a W : Int} (h0 : 0 ≤ d) (h1 : d ≤ 1099511627776) (ha0 : 0 ≤ a) (ha : a ≤ 88761) (hW : 0 ≤ W) : wrap64 (Int.tdiv (wrap64 (d * a)) W) = Int.tdiv (d * a) W := by
  have p0 : 0 ≤ d * a := Int.mul_nonneg h0 ha0
  have p1 : d * a ≤ 1099511627776 * 88761 := Int.mul_le_mul h1 ha ha0 (by decide)
  rw [w64 (n := d * a) (by omega) (by omega)]
  have q0 : 0 ≤ Int.tdiv (d * a) W := Int.tdiv_nonneg p0 hW
  have q1 : Int.tdiv (d * a) W ≤ d * a := by rw [Int.tdiv_eq_ediv_of_nonneg p0]; exact Int.ediv_le_self _ p0
  exact w64 (by omega) (by omega)
theorem share_j (d w : Int) (l : List Int) (k : Nat) (hk : 67 ≤ k) (h0 : 0 ≤ d) (h1 : d ≤ 1099511627776) (hw0 : 0 ≤ w) (hw : w ≤ 88761) :
    weight_Share.j0 k d l w false = some (if (smf l).2 = 0 then (if (smf l).1 = 0 then (0, 1) else (Int.tdiv (d * w) (smf l).1, 0)) else (0, (smf l).2)) := by
  obtain ⟨k, rfl⟩ : ∃ m, k = m + 1 := ⟨k - 1, by omega⟩
  simp only [weight_Share.j0, Bool.false_eq_true, if_false]
  rw [sum_ l k (by omega), Option.bind_some]
  have hs : 0 ≤ (smf l).1 := by
    unfold smf; split
    · simp
    · exact (sm_bd l 0 (by omega)).1
  rw [share_wrap h0 h1 hw0 hw hs]
  by_cases e : (smf l).2 = 0
  · rw [if_pos e, if_pos e]
    split <;> rfl
  · rw [if_neg e, if_neg e]
theorem share_ (d nice : Int) (l : List Int) (k : Nat) (hk : 67 ≤ k) : weight_Share.f k d nice l = some (shv d nice l) := by
  unfold weight_Share.f shv
  rw [of_, Option.bind_some]
  have bad : ∀ w, weight_Share.j0 k d l w true = some (0, 1) := by
    intro w
    obtain ⟨k, rfl⟩ : ∃ m, k = m + 1 := ⟨k - 1, by omega⟩
    simp [weight_Share.j0]
  by_cases c : -20 ≤ nice ∧ nice ≤ 19
  · rw [ofv_in c.1 c.2]; dsimp only
    rw [if_pos rfl]
    by_cases c1 : d < 0
    · rw [if_pos c1, if_neg (by omega), bad]
    · rw [if_neg c1]
      by_cases c2 : d > 1099511627776
      · rw [decide_eq_true c2, if_neg (by omega), bad]
      · have b := wt_bd c.1 c.2
        rw [decide_eq_false c2, if_pos (by omega)]
        exact share_j d (wt nice) l k hk (by omega) (by omega) (by omega) (by omega)
  · unfold ofv; rw [if_neg c]; dsimp only
    rw [if_neg (by decide), if_neg (by omega), bad]

theorem radd (h l m : Int) (hh0 : 0 ≤ h) (hh1 : h < 18446744073709551616) (hl0 : 0 ≤ l) (hl1 : l < 18446744073709551616) (hm0 : 0 ≤ m) (hm1 : m < 18446744073709551616) :
    turnspitref01_Add.f h l m = some ((h + (l + m) / 18446744073709551616) % 18446744073709551616, (l + m) % 18446744073709551616) := by
  unfold turnspitref01_Add.f
  simp only [wu]
  by_cases c : (l + m) % 18446744073709551616 < l
  · rw [if_pos c]
    have : (l + m) / 18446744073709551616 = 1 := by omega
    rw [this]
  · rw [if_neg c]
    have : (l + m) / 18446744073709551616 = 0 := by omega
    rw [this, Int.add_zero, Int.emod_eq_of_lt hh0 hh1]
theorem rdouble (h l : Int) (hh0 : 0 ≤ h) (hh1 : 2 * h + 1 < 18446744073709551616) (hl0 : 0 ≤ l) (hl1 : l < 18446744073709551616) :
    turnspitref01_double.f h l 0 = some (2 * h + l / 9223372036854775808, 2 * l % 18446744073709551616) := by
  unfold turnspitref01_double.f
  rw [Int.tdiv_eq_ediv_of_nonneg hl0]; simp only [wu]; congr 2
  · omega
  · omega
theorem shr_is (a : Int) (n : Nat) (hn : n ≤ 64) : shr .u64 a (n : Int) = a / 2 ^ n := by
  unfold shr; simp [IntKind.bits]; rw [Nat.min_eq_left hn]
theorem half (a : Int) (ha0 : 0 ≤ a) (n : Nat) : a / 2 ^ n = 2 * (a / 2 ^ (n + 1)) + a / 2 ^ n % 2 := by
  have hp : (0 : Int) < 2 ^ n := Int.pow_pos (by decide)
  rw [Int.pow_succ, ← Int.ediv_ediv_of_nonneg (Int.le_of_lt hp)]; omega
theorem rmul (a b : Int) (ha0 : 0 ≤ a) (ha1 : a < 18446744073709551616) (hb0 : 0 ≤ b) (hb1 : b < 18446744073709551616) (n : Nat) :
    ∀ (k : Nat) (h l : Int), n ≤ 64 → n < k → 0 ≤ h → 0 ≤ l → l < 18446744073709551616 → h * 18446744073709551616 + l = a / 2 ^ n * b →
      turnspitref01_Mul.l0 k a b h l ((n : Int) - 1) = some (a * b / 18446744073709551616, a * b % 18446744073709551616) := by
  induction n with
  | zero =>
    intro k h l _ hk hh0 hl0 hl1 hv
    obtain ⟨k, rfl⟩ : ∃ m, k = m + 1 := ⟨k - 1, by omega⟩
    simp only [turnspitref01_Mul.l0]
    rw [if_neg (by omega)]
    simp at hv
    rw [← hv]; congr 2 <;> omega
  | succ n ih =>
    intro k h l hn hk hh0 hl0 hl1 hv
    obtain ⟨k, rfl⟩ : ∃ m, k = m + 1 := ⟨k - 1, by omega⟩
    have hq0 : 0 ≤ a / 2 ^ n := Int.ediv_nonneg ha0 (Int.le_of_lt (Int.pow_pos (by decide)))
    have hq1 : a / 2 ^ n ≤ a := Int.ediv_le_self _ ha0
    have bd := prod_bd hq0 (by omega) hb0 hb1
    have hh := half a ha0 n
    have hbit0 : 0 ≤ a / 2 ^ n % 2 := by omega
    have hbit1 : a / 2 ^ n % 2 ≤ 1 := by omega
    have hval : a / 2 ^ n * b = 2 * (h * 18446744073709551616 + l) + a / 2 ^ n % 2 * b := by
      rw [hv, ← Int.mul_assoc, ← Int.add_mul, ← hh]
    have hbb : 0 ≤ a / 2 ^ n % 2 * b := Int.mul_nonneg hbit0 hb0
    have e0 : (((n + 1 : Nat) : Int) - 1) = n := by omega
    simp only [turnspitref01_Mul.l0]
    rw [e0, if_pos (by omega), rdouble h l hh0 (by omega) hl0 hl1]; simp only [Option.bind_some]
    rw [if_pos (by omega), shr_is a n (by omega), Int.tmod_eq_emod_of_nonneg hq0]
    have ew : wrap64 ((n : Int) - 1) = (n : Int) - 1 := by unfold wrap64; omega
    rw [ew]
    by_cases c : a / 2 ^ n % 2 = 1
    · rw [c, Int.one_mul] at hval
      rw [if_pos c, radd _ _ _ (by omega) (by omega) (by omega) (by omega) hb0 hb1]; simp only [Option.bind_some]
      exact ih k _ _ (by omega) (by omega) (by omega) (by omega) (by omega) (by omega)
    · have c0 : a / 2 ^ n % 2 = 0 := by omega
      rw [c0, Int.zero_mul] at hval
      rw [if_neg c]
      exact ih k _ _ (by omega) (by omega) (by omega) (by omega) (by omega) (by omega)
theorem rMul (a b : Int) (ha0 : 0 ≤ a) (ha1 : a < 18446744073709551616) (hb0 : 0 ≤ b) (hb1 : b < 18446744073709551616) :
    turnspitref01_Mul.f 66 a b = some (a * b / 18446744073709551616, a * b % 18446744073709551616) := by
  unfold turnspitref01_Mul.f
  have e : a / 2 ^ 64 = 0 := Int.ediv_eq_zero_of_lt ha0 (by simpa using ha1)
  have e63 : ((64 : Nat) : Int) - 1 = 63 := by decide
  have h := rmul a b ha0 ha1 hb0 hb1 64 66 0 0 (by decide) (by decide) (by decide) (by decide) (by decide) (by rw [e, Int.zero_mul, Int.zero_mul]; rfl)
  rw [e63] at h
  exact h
theorem rdiv (h l d : Int) (hh0 : 0 ≤ h) (hl0 : 0 ≤ l) (hl1 : l < 18446744073709551616) (hd0 : 0 < d) (hd1 : d < 18446744073709551616) (hlt : h < d) (n : Nat) :
    ∀ (k : Nat), n ≤ 64 → n < k →
      turnspitref01_Div.l0 k l d (num h (bitsOf l (64 - n)) % d) (num h (bitsOf l (64 - n)) / d) ((n : Int) - 1) = some ((h * 18446744073709551616 + l) / d, (h * 18446744073709551616 + l) % d, true) := by
  induction n with
  | zero =>
    intro k _ hk
    obtain ⟨k, rfl⟩ : ∃ m, k = m + 1 := ⟨k - 1, by omega⟩
    simp only [turnspitref01_Div.l0]
    rw [if_neg (by omega), num_all h l hl0 hl1]
  | succ n ih =>
    intro k hn hk
    obtain ⟨k, rfl⟩ : ∃ m, k = m + 1 := ⟨k - 1, by omega⟩
    have e0 : (((n + 1 : Nat) : Int) - 1) = n := by omega
    have ew : wrap64 ((n : Int) - 1) = (n : Int) - 1 := by unfold wrap64; omega
    have hs : num h (bitsOf l (64 - n)) = 2 * num h (bitsOf l (64 - (n + 1))) + l / 2 ^ n % 2 := by
      have e1 : 64 - n = (64 - (n + 1)) + 1 := by omega
      have e2 : 63 - (64 - (n + 1)) = n := by omega
      have e3 : (bit l (64 - (n + 1))).1 = l / 2 ^ n % 2 := by
        show l / 2 ^ (63 - (64 - (n + 1))) % 2 = l / 2 ^ n % 2
        rw [e2]
      rw [e1, bitsOf_succ, num_snoc, e3]
    have q1 := quot_hi hd0 hlt (bitsOf l (64 - (n + 1))) (by rw [bitsOf_length]; omega)
    have hk' := ih k (by omega) (by omega)
    rw [hs] at hk'
    have lo := num_lo h hh0 (bitsOf l (64 - (n + 1)))
    generalize num h (bitsOf l (64 - (n + 1))) = V at *
    have q0 : 0 ≤ V / d := Int.ediv_nonneg lo (by omega)
    have r0 : 0 ≤ V % d := Int.emod_nonneg _ (by omega)
    have r1 : V % d < d := Int.emod_lt_of_pos _ hd0
    have hb0 : 0 ≤ l / 2 ^ n % 2 := by omega
    have hb1 : l / 2 ^ n % 2 ≤ 1 := by omega
    have hy := fun g => @step_yes V (l / 2 ^ n % 2) d hd0 hb0 hb1 g
    have hnn := fun g => @step_no V (l / 2 ^ n % 2) d hd0 hb0 g
    have hsq0 : 0 ≤ l / 2 ^ n := Int.ediv_nonneg hl0 (Int.le_of_lt (Int.pow_pos (by decide)))
    simp only [turnspitref01_Div.l0]
    rw [e0, ew, if_pos (by omega), if_pos (by omega), shr_is l n (by omega), Int.tmod_eq_emod_of_nonneg hsq0]
    simp only [wu]
    generalize l / 2 ^ n % 2 = x at *
    generalize V / d = q at *
    generalize V % d = r at *
    by_cases c : r ≥ 9223372036854775808
    · rw [if_pos c]
      obtain ⟨f1, f2⟩ := hy (by omega)
      have g1 : ((r * 2 % 18446744073709551616 + x) % 18446744073709551616 - d) % 18446744073709551616 = (2 * V + x) % d := by rw [f2]; omega
      have g2 : (q * 2 % 18446744073709551616 + 1) % 18446744073709551616 = (2 * V + x) / d := by rw [f1]; omega
      rw [g1, g2]; exact hk'
    · rw [if_neg c]
      have g0 : (r * 2 % 18446744073709551616 + x) % 18446744073709551616 = 2 * r + x := by omega
      rw [g0]
      by_cases c2 : 2 * r + x ≥ d
      · rw [if_pos c2]
        obtain ⟨f1, f2⟩ := hy (by omega)
        have g1 : (2 * r + x - d) % 18446744073709551616 = (2 * V + x) % d := by rw [f2]; omega
        have g2 : (q * 2 % 18446744073709551616 + 1) % 18446744073709551616 = (2 * V + x) / d := by rw [f1]; omega
        rw [g1, g2]; exact hk'
      · rw [if_neg c2]
        obtain ⟨f1, f2⟩ := hnn (by omega)
        have g1 : 2 * r + x = (2 * V + x) % d := by rw [f2]
        have g2 : q * 2 % 18446744073709551616 = (2 * V + x) / d := by rw [f1]; omega
        rw [g1, g2]; exact hk'
theorem rDiv (h l d : Int) (hh0 : 0 ≤ h) (hl0 : 0 ≤ l) (hl1 : l < 18446744073709551616) (hd0 : 0 ≤ d) (hd1 : d < 18446744073709551616) :
    turnspitref01_Div.f 67 h l d = if d ≤ h then some (0, 0, false) else some ((h * 18446744073709551616 + l) / d, (h * 18446744073709551616 + l) % d, true) := by
  unfold turnspitref01_Div.f
  by_cases z : d = 0
  · rw [if_pos z, if_pos (by omega)]; rfl
  · rw [if_neg z]
    by_cases c : d ≤ h
    · rw [if_pos c, decide_eq_true (by omega)]; rfl
    · rw [if_neg c, decide_eq_false (by omega)]
      have := rdiv h l d hh0 hl0 hl1 (by omega) hd1 (by omega) 64 66 (by omega) (by omega)
      have e1 : num h (bitsOf l (64 - 64)) = h := rfl
      have e63 : ((64 : Nat) : Int) - 1 = 63 := by decide
      rw [e63, e1, Int.emod_eq_of_lt hh0 (by omega), Int.ediv_eq_zero_of_lt hh0 (by omega)] at this
      exact this
theorem rScale (a b d : Int) (ha0 : 0 ≤ a) (ha1 : a < 18446744073709551616) (hb0 : 0 ≤ b) (hb1 : b < 18446744073709551616) (hd0 : 0 ≤ d) (hd1 : d < 18446744073709551616) :
    turnspitref01_Scale.f 67 a b d = some (scl (a * b) d) := by
  have bd := prod_bd ha0 ha1 hb0 hb1
  have m : turnspitref01_Mul.f 67 a b = some (a * b / 18446744073709551616, a * b % 18446744073709551616) := at_rounds (g := fun k => turnspitref01_Mul.f k a b) (fun k => turnspitref01_Mul.mono a b k) (show 66 ≤ 67 by omega) (rMul a b ha0 ha1 hb0 hb1)
  unfold turnspitref01_Scale.f scl
  rw [m]; simp only [Option.bind_some]
  rw [rDiv _ _ _ (by omega) (by omega) (by omega) hd0 hd1]
  have e : a * b / 18446744073709551616 * 18446744073709551616 + a * b % 18446744073709551616 = a * b := by omega
  by_cases c : d ≤ a * b / 18446744073709551616
  · rw [if_pos c, if_pos c]; rfl
  · rw [if_neg c, if_neg c, e]; rfl

theorem nn_spec (a : Int) (d : Nat) : ∀ j : Nat, j + d = 40 → -20 ≤ Table.nn (Table.ws.drop j) ((j : Int) - 20) a ∧ Table.nn (Table.ws.drop j) ((j : Int) - 20) a ≤ 19 ∧
    ((j : Int) - 20 ≤ Table.nn (Table.ws.drop j) ((j : Int) - 20) a ∨ j = 40) ∧
    (wt (Table.nn (Table.ws.drop j) ((j : Int) - 20) a) ≤ a ∨ (∀ i, j ≤ i → i < 40 → a < Table.ws.getD i 0) ∧ Table.nn (Table.ws.drop j) ((j : Int) - 20) a = 19) ∧
    (∀ i : Nat, j ≤ i → i < 40 → (i : Int) - 20 < Table.nn (Table.ws.drop j) ((j : Int) - 20) a → a < Table.ws.getD i 0) := by
  induction d with
  | zero =>
    intro j hj
    obtain rfl : j = 40 := by omega
    have e : Table.nn (Table.ws.drop 40) (((40 : Nat) : Int) - 20) a = 19 := rfl
    rw [e]
    exact ⟨by omega, by omega, .inr rfl, .inr ⟨fun i h1 h2 => by omega, rfl⟩, fun i h1 h2 _ => by omega⟩
  | succ d ih =>
    intro j hj
    have hlt : j < 40 := by omega
    rw [Table.nn_step j hlt]
    by_cases c : Table.ws.getD j 0 ≤ a
    · rw [if_pos c]
      exact ⟨by omega, by omega, .inl (Int.le_refl _), .inl (by rw [wt_at]; exact c), fun i h1 h2 h3 => by omega⟩
    · rw [if_neg c]
      obtain ⟨g1, g2, g3, g4, g5⟩ := ih (j + 1) (by omega)
      rw [show (((j + 1 : Nat) : Int) - 20) = (j : Int) - 20 + 1 by omega] at g1 g2 g3 g4 g5
      have g6 : (j : Int) - 20 ≤ Table.nn (Table.ws.drop (j + 1)) ((j : Int) - 20 + 1) a := by
        rcases g3 with g3 | g3
        · omega
        · obtain rfl : j = 39 := by omega
          have e : Table.nn (Table.ws.drop (39 + 1)) (((39 : Nat) : Int) - 20 + 1) a = 19 := rfl
          rw [e]; decide
      refine ⟨g1, g2, .inl g6, ?_, ?_⟩
      · rcases g4 with g4 | ⟨g4, g4'⟩
        · exact .inl g4
        · exact .inr ⟨fun i h1 h2 => by
            by_cases e : i = j
            · rw [e]; omega
            · exact g4 i (by omega) h2, g4'⟩
      · intro i h1 h2 h3
        by_cases e : i = j
        · rw [e]; omega
        · exact g5 i (by omega) h2 h3
def nc (a : Int) : Int := Table.nn Table.ws (-20) a
theorem nice_ (a : Int) : weight_Nice.f a = some (nc a) := rfl
theorem nc_spec (a : Int) : -20 ≤ nc a ∧ nc a ≤ 19 ∧ (wt (nc a) ≤ a ∨ a < 15 ∧ nc a = 19) ∧ (nc a = -20 ∨ a < wt (nc a - 1)) := by
  obtain ⟨g1, g2, _, g4, g5⟩ := nn_spec a 40 0 (by omega)
  have e : Table.nn (Table.ws.drop 0) (((0 : Nat) : Int) - 20) a = nc a := rfl
  rw [e] at g1 g2 g4 g5
  refine ⟨g1, g2, ?_, ?_⟩
  · rcases g4 with g4 | ⟨g4, g4'⟩
    · exact .inl g4
    · refine .inr ⟨?_, g4'⟩
      have := g4 39 (by omega) (by omega)
      simpa [Table.ws] using this
  · by_cases z : nc a = -20
    · exact .inl z
    · obtain ⟨j, hj, hj'⟩ := nat_of (a := nc a - 1) (by omega) (by omega)
      refine .inr ?_
      rw [hj', wt_at]
      exact g5 j (by omega) hj (by omega)

theorem rof (a : Int) (ha0 : -9223372036854775808 ≤ a) (ha1 : a < 9223372036854775808) : turnspitref02_Of.f a = some (ofv a) := by
  unfold turnspitref02_Of.f turnspitref02_weights.f ofv wt
  by_cases c1 : a < -20
  · rw [if_pos c1, if_neg (by omega)]
  · rw [if_neg c1]
    by_cases c2 : a > 19
    · rw [if_pos c2, if_neg (by omega)]
    · rw [if_neg c2, Option.bind_some, w64 (by omega) (by omega), if_pos (by omega), if_pos (by simp; omega), if_pos (by omega)]; rfl
theorem rdelta (d w : Int) (hd : d < 9223372036854775808) (hw : w < 9223372036854775808) : turnspitref02_Delta.f 68 d w = some (dl d w) := by
  unfold turnspitref02_Delta.f dl
  by_cases c1 : d < 0
  · rw [if_pos c1, if_pos (by omega)]; rfl
  · rw [if_neg c1]
    by_cases c2 : w < 1
    · rw [decide_eq_true c2, if_pos (by omega)]; rfl
    · rw [decide_eq_false c2, if_neg (by omega)]
      simp only [turnspitref02_Delta.j0, Bool.false_eq_true, if_false]
      rw [wid (n := d) (by omega) (by omega), wid (n := w) (by omega) (by omega), rScale d 1024 w (by omega) (by omega) (by omega) (by omega) (by omega) (by omega), Option.bind_some]
      have := scl_lo (P := d * 1024) (d := w) (by omega) (by omega)
      by_cases c3 : scl (d * 1024) w > 281474976710656
      · rw [if_pos c3]; unfold mn; rw [if_pos c3]
      · rw [if_neg c3, w64 (by omega) (by omega)]; unfold mn; rw [if_neg c3]
theorem rnice (a : Int) (d : Nat) : ∀ (k j : Nat), j + d = 39 → d < k → turnspitref02_Nice.l0 k a ((j : Int) - 20) = some (Table.nn (Table.ws.drop j) ((j : Int) - 20) a) := by
  induction d with
  | zero =>
    intro k j hj hk
    obtain ⟨k, rfl⟩ : ∃ m, k = m + 1 := ⟨k - 1, by omega⟩
    obtain rfl : j = 39 := by omega
    simp only [turnspitref02_Nice.l0]
    rw [if_neg (by omega), Table.nn_step 39 (by omega)]
    have e : Table.nn (Table.ws.drop (39 + 1)) (((39 : Nat) : Int) - 20 + 1) a = 19 := rfl
    rw [e]; split <;> rfl
  | succ d ih =>
    intro k j hj hk
    obtain ⟨k, rfl⟩ : ∃ m, k = m + 1 := ⟨k - 1, by omega⟩
    have e1 : wrap64 ((j : Int) - 20 + 20) = j := by rw [w64 (by omega) (by omega)]; omega
    have e2 : wrap64 ((j : Int) - 20 + 1) = ((j + 1 : Nat) : Int) - 20 := by rw [w64 (by omega) (by omega)]; omega
    have e3 : (j : Int) - 20 + 1 = ((j + 1 : Nat) : Int) - 20 := by omega
    simp only [turnspitref02_Nice.l0, turnspitref02_weights.f]
    rw [if_pos (by omega), Option.bind_some, e1, e2, if_pos (by omega), if_pos (by simp; omega), Table.nn_step j (by omega), e3]
    have er : rd ([88761, 71755, 56483, 46273, 36291, 29154, 23254, 18705, 14949, 11916, 9548, 7620, 6100, 4904, 3906, 3121, 2501, 1991, 1586, 1277, 1024, 820, 655, 526, 423, 335, 272, 215, 172, 137, 110, 87, 70, 56, 45, 36, 29, 23, 18, 15] : List Int) (j : Int) = Table.ws.getD j 0 := rfl
    rw [er]
    by_cases c : Table.ws.getD j 0 ≤ a
    · rw [if_pos c, if_pos c]
    · rw [if_neg c, if_neg c]; exact ih k (j + 1) (by omega) (by omega)
theorem WeightTells : turnspitlaw02_WeightTells.Pure := by
  intro a w d ha hw hd
  have ga := wfi ha; have gw := wfi hw; have gd := wfi hd
  refine ⟨68, ?_⟩
  have hn : turnspitref02_Nice.f 68 w = some (nc w) := rnice w 39 68 0 (by omega) (by omega)
  unfold turnspitlaw02_WeightTells.f
  rw [of_, Option.bind_some, rof a ga.1 ga.2, Option.bind_some, delta d w gd.2 gw.2, Option.bind_some, rdelta d w gd.2 gw.2, Option.bind_some, awk (by omega), Option.bind_some, if_pos rfl, if_pos rfl, if_pos rfl, if_pos rfl, if_pos rfl, nice_, Option.bind_some, hn, Option.bind_some, beq_self_eq_true]

end Go.Proofs.YteppeacpjpgobaaDoor.Pure
