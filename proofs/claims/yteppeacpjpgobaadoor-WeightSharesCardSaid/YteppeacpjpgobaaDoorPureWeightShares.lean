/- Sums and shares of any list are the reference's. For every input of the given kinds; no condition. -/
import Derived.Test.YteppeacpjpgobaaDoorQWeightSharesx2
import Derived.Test.YteppeacpjpgobaaDoorMath
import Derived.Test.YteppeacpjpgobaaDoorTable
namespace Go.Proofs.YteppeacpjpgobaaDoor.Pure
set_option linter.unusedSimpArgs false
set_option linter.unusedVariables false
open Go.RowKit Go.Proofs.YteppeacpjpgobaaDoor.QWeightShares Go.Proofs.YteppeacpjpgobaaDoorW.PrintWords Go.Proofs.YteppeacpjpgobaaDoorW.PrintLast Go.Proofs.YteppeacpjpgobaaDoorW.PrintMore Go.Proofs.YteppeacpjpgobaaDoor.WideMath

theorem wfu {n : Int} (h : (Lit.int .u64 n).wf = true) : 0 ≤ n ∧ n < 18446744073709551616 := by
  simp [Lit.wf, IntKind.min, IntKind.max, IntKind.signed, IntKind.bits] at h; omega
theorem prod_bd {a b : Int} (ha0 : 0 ≤ a) (ha1 : a < 18446744073709551616) (hb0 : 0 ≤ b) (hb1 : b < 18446744073709551616) : 0 ≤ a * b ∧ a * b ≤ 340282366920938463426481119284349108225 := by
  refine ⟨Int.mul_nonneg ha0 hb0, ?_⟩
  have h := Int.mul_le_mul (show a ≤ 18446744073709551615 by omega) (show b ≤ 18446744073709551615 by omega) hb0 (by decide)
  simpa using h
theorem mul (a b : Int) (ha0 : 0 ≤ a) (ha1 : a < 18446744073709551616) (hb0 : 0 ≤ b) (hb1 : b < 18446744073709551616) :
    wide_Mul.f a b = some (a * b / 18446744073709551616, a * b % 18446744073709551616) := by
  unfold wide_Mul.f
  rw [and32 a ha0 ha1, and32 b hb0 hb1]
  obtain ⟨x, hx⟩ : ∃ x, a / 4294967296 = x := ⟨_, rfl⟩
  obtain ⟨y, hy⟩ : ∃ y, a % 4294967296 = y := ⟨_, rfl⟩
  obtain ⟨p, hp⟩ : ∃ p, b / 4294967296 = p := ⟨_, rfl⟩
  obtain ⟨q, hq⟩ : ∃ q, b % 4294967296 = q := ⟨_, rfl⟩
  have ea : a = x * 4294967296 + y := by omega
  have eb : b = p * 4294967296 + q := by omega
  have hm := mul_parts x y p q
  rw [← ea, ← eb] at hm
  rw [hx, hy, hp, hq]
  have b1 := mul_bd (x := x) (q := p) (by omega) (by omega) (by omega) (by omega)
  have b2 := mul_bd (x := x) (q := q) (by omega) (by omega) (by omega) (by omega)
  have b3 := mul_bd (x := y) (q := p) (by omega) (by omega) (by omega) (by omega)
  have b4 := mul_bd (x := y) (q := q) (by omega) (by omega) (by omega) (by omega)
  have b5 := prod_bd ha0 ha1 hb0 hb1
  clear hx hy hp hq ea eb
  generalize x * p = A at *
  generalize x * q = B at *
  generalize y * p = C at *
  generalize y * q = D at *
  generalize a * b = P at *
  have w1 : IntKind.u64.wrap A = A := wid (by omega) (by omega)
  have w2 : IntKind.u64.wrap B = B := wid (by omega) (by omega)
  have w3 : IntKind.u64.wrap C = C := wid (by omega) (by omega)
  have w4 : IntKind.u64.wrap D = D := wid (by omega) (by omega)
  rw [w1, w2, w3, w4]
  have w5 : IntKind.u64.wrap (B + D / 4294967296) = B + D / 4294967296 := wid (by omega) (by omega)
  rw [w5, and32 (B + D / 4294967296) (by omega) (by omega), and32 D (by omega) (by omega)]
  have w6 : IntKind.u64.wrap (C + (B + D / 4294967296) % 4294967296) = C + (B + D / 4294967296) % 4294967296 := wid (by omega) (by omega)
  rw [w6]
  have w7 : IntKind.u64.wrap (A + (B + D / 4294967296) / 4294967296) = A + (B + D / 4294967296) / 4294967296 := wid (by omega) (by omega)
  rw [w7]
  have w8 : IntKind.u64.wrap (A + (B + D / 4294967296) / 4294967296 + (C + (B + D / 4294967296) % 4294967296) / 4294967296) = P / 18446744073709551616 := by rw [wu]; omega
  rw [w8]
  have w9 : IntKind.u64.wrap ((C + (B + D / 4294967296) % 4294967296) * 4294967296) = ((C + (B + D / 4294967296) % 4294967296) % 4294967296) * 4294967296 := by rw [wu]; omega
  rw [w9, or32 _ _ (by omega) (by omega) (by omega) (by omega) (by omega)]
  have w10 : (C + (B + D / 4294967296) % 4294967296) % 4294967296 * 4294967296 + D % 4294967296 = P % 18446744073709551616 := by omega
  rw [w10]
theorem div (h l d : Int) (hh0 : 0 ≤ h) (hl0 : 0 ≤ l) (hl1 : l < 18446744073709551616) (hd1 : d < 18446744073709551616) :
    wide_Div.f h l d = if d ≤ h then some (0, 0, false) else some ((h * 18446744073709551616 + l) / d, (h * 18446744073709551616 + l) % d, true) := by
  unfold wide_Div.f; rw [if_pos ⟨hh0, hl0, by omega, by omega⟩]; rfl
def scl (P d : Int) : Int := if d ≤ P / 18446744073709551616 then 18446744073709551615 else P / d
theorem scale (a b d : Int) (ha0 : 0 ≤ a) (ha1 : a < 18446744073709551616) (hb0 : 0 ≤ b) (hb1 : b < 18446744073709551616) (hd1 : d < 18446744073709551616) :
    wide_Scale.f a b d = some (scl (a * b) d) := by
  have bd := prod_bd ha0 ha1 hb0 hb1
  unfold wide_Scale.f scl
  rw [mul a b ha0 ha1 hb0 hb1]; simp only [Option.bind_some]
  rw [div _ _ _ (by omega) (by omega) (by omega) hd1]
  have e : a * b / 18446744073709551616 * 18446744073709551616 + a * b % 18446744073709551616 = a * b := by omega
  by_cases c : d ≤ a * b / 18446744073709551616
  · rw [if_pos c, if_pos c]; rfl
  · rw [if_neg c, if_neg c, e]; rfl

theorem wfi {n : Int} (h : (Lit.int .i64 n).wf = true) : -9223372036854775808 ≤ n ∧ n < 9223372036854775808 := by
  simp [Lit.wf, IntKind.min, IntKind.max, IntKind.signed, IntKind.bits] at h; omega
theorem wf8 {n : Int} (h : (Lit.int .u8 n).wf = true) : 0 ≤ n ∧ n < 256 := by
  simp [Lit.wf, IntKind.min, IntKind.max, IntKind.signed, IntKind.bits] at h; omega
theorem w64 {n : Int} (h0 : -9223372036854775808 ≤ n) (h1 : n < 9223372036854775808) : wrap64 n = n := by unfold wrap64; omega
theorem awk {k : Nat} (hk : 10 ≤ k) : turnspitlaw02_awake.f k = some true :=
  at_rounds (g := fun k => turnspitlaw02_awake.f k) (fun k => turnspitlaw02_awake.mono k) hk (by decide +kernel)
/-- a nice's weight -/
def wt (a : Int) : Int := rd Table.ws (a + 20)
theorem wt_at (j : Nat) : wt ((j : Int) - 20) = Table.ws.getD j 0 := by
  unfold wt rd; rw [show (j : Int) - 20 + 20 = j by omega]; rfl
theorem nat_of {a : Int} (h0 : -20 ≤ a) (h1 : a ≤ 19) : ∃ j : Nat, j < 40 ∧ a = (j : Int) - 20 := ⟨(a + 20).toNat, by omega, by omega⟩
theorem wt_bd {a : Int} (h0 : -20 ≤ a) (h1 : a ≤ 19) : 15 ≤ wt a ∧ wt a ≤ 88761 := by
  obtain ⟨j, hj, rfl⟩ := nat_of h0 h1
  rw [wt_at]
  have : ∀ i : Fin 40, 15 ≤ Table.ws.getD i.1 0 ∧ Table.ws.getD i.1 0 ≤ 88761 := by decide
  exact this ⟨j, hj⟩
def ofv (a : Int) : Int × Int := if -20 ≤ a ∧ a ≤ 19 then (wt a, 0) else (0, 1)
theorem of_ (a : Int) : weight_Of.f a = some (ofv a) := by
  unfold weight_Of.f Table.Of.f ofv wt
  by_cases c1 : a < -20
  · rw [if_pos c1, if_neg (by omega)]
  · rw [if_neg c1]
    by_cases c2 : a > 19
    · rw [if_pos c2, if_neg (by omega)]
    · rw [if_neg c2, if_pos (by omega)]
theorem ofv_in {a : Int} (h0 : -20 ≤ a) (h1 : a ≤ 19) : ofv a = (wt a, 0) := by unfold ofv; rw [if_pos ⟨h0, h1⟩]
def dl (d w : Int) : Int × Int := if d < 0 ∨ w < 1 then (0, 1) else (mn (scl (d * 1024) w) 281474976710656, 0)
theorem dl_in {d w : Int} (h0 : 0 ≤ d) (h1 : 1 ≤ w) : dl d w = (mn (scl (d * 1024) w) 281474976710656, 0) := by unfold dl; rw [if_neg (by omega)]
theorem scl_lo {P d : Int} (h : 0 ≤ P) (hd : 0 ≤ d) : 0 ≤ scl P d := by
  unfold scl; split
  · omega
  · exact Int.ediv_nonneg h hd
theorem delta (d w : Int) (hd : d < 9223372036854775808) (hw : w < 9223372036854775808) : weight_Delta.f d w = some (dl d w) := by
  unfold weight_Delta.f dl
  by_cases c1 : d < 0
  · rw [if_pos c1, if_pos (by omega)]
  · rw [if_neg c1]
    by_cases c2 : w < 1
    · rw [if_pos c2, if_pos (by omega)]
    · rw [if_neg c2, if_neg (by omega), wid (n := d) (by omega) (by omega), wid (n := w) (by omega) (by omega), scale d 1024 w (by omega) (by omega) (by omega) (by omega) (by omega), Option.bind_some]
      have := scl_lo (P := d * 1024) (d := w) (by omega) (by omega)
      rw [w64]
      · unfold mn; split <;> omega
      · unfold mn; split <;> omega
/-- the sum of a list, on top of some -/
def sm : Int → List Int → Int × Int
  | n, [] => (n, 0)
  | n, x :: t => if -20 ≤ x ∧ x ≤ 19 then sm (n + wt x) t else (0, 1)
theorem sum_loop (l : List Int) (hl : l.length ≤ 64) (d : Nat) : ∀ (k i : Nat) (n : Int), i + d = l.length → d < k → 0 ≤ n → n ≤ 88761 * i →
    weight_Sum.l0 k n l (l.length : Int) i = some (sm n (l.drop i)) := by
  induction d with
  | zero =>
    intro k i n hi hk hn0 hn1
    obtain ⟨k, rfl⟩ : ∃ m, k = m + 1 := ⟨k - 1, by omega⟩
    simp only [weight_Sum.l0]
    rw [if_neg (by omega), List.drop_eq_nil_of_le (by omega)]; rfl
  | succ d ih =>
    intro k i n hi hk hn0 hn1
    obtain ⟨k, rfl⟩ : ∃ m, k = m + 1 := ⟨k - 1, by omega⟩
    have hlt : i < l.length := by omega
    simp only [weight_Sum.l0]
    rw [if_pos (by omega), if_pos (by omega), if_pos (by omega), of_, Option.bind_some]
    have er : rd l (i : Int) = l[i] := by unfold rd; simp [hlt]
    rw [er, List.drop_eq_getElem_cons hlt]
    unfold sm ofv
    by_cases c : -20 ≤ l[i] ∧ l[i] ≤ 19
    · have b := wt_bd c.1 c.2
      rw [if_pos c, if_pos c]
      dsimp only
      rw [if_pos rfl, w64 (by omega) (by omega), w64 (by omega) (by omega)]
      have := ih k (i + 1) (n + wt l[i]) (by omega) (by omega) (by omega) (by omega)
      rw [show ((i : Int) + 1) = ((i + 1 : Nat) : Int) by omega]
      exact this
    · rw [if_neg c, if_neg c]
      dsimp only
      rw [if_neg (by decide)]
def smf (l : List Int) : Int × Int := if l.length > 64 then (0, 2) else sm 0 l
theorem sum_ (l : List Int) (k : Nat) (hk : 66 ≤ k) : weight_Sum.f k l = some (smf l) := by
  unfold weight_Sum.f smf
  by_cases c : l.length > 64
  · rw [if_pos (by omega), if_pos c]
  · rw [if_neg (by omega), if_neg c]
    exact sum_loop l (by omega) l.length k 0 0 (by omega) (by omega) (by omega) (by omega)
theorem sm_bd : ∀ (l : List Int) (n : Int), 0 ≤ n → 0 ≤ (sm n l).1 ∧ (sm n l).1 ≤ n + 88761 * l.length := by
  intro l
  induction l with
  | nil => intro n hn; simp [sm]; omega
  | cons x t ih =>
    intro n hn
    unfold sm
    split
    · rename_i c
      have b := wt_bd c.1 c.2
      have := ih (n + wt x) (by omega)
      rw [List.length_cons]; omega
    · simp; omega
def shv (d nice : Int) (l : List Int) : Int × Int :=
  if (-20 ≤ nice ∧ nice ≤ 19) ∧ 0 ≤ d ∧ d ≤ 1099511627776 then
    (if (smf l).2 = 0 then (if (smf l).1 = 0 then (0, 1) else (Int.tdiv (d * wt nice) (smf l).1, 0)) else (0, (smf l).2)) else (0, 1)
theorem share_wrap {d a W : Int} (h0 : 0 ≤ d) (h1 : d ≤ 1099511627776) (ha0 : 0 ≤ a) (ha : a ≤ 88761) (hW : 0 ≤ W) : wrap64 (Int.tdiv (wrap64 (d * a)) W) = Int.tdiv (d * a) W := by
  have p0 : 0 ≤ d * a := Int.mul_nonneg h0 ha0
  have p1 : d * a ≤ 1099511627776 * 88761 := Int.mul_le_mul h1 ha ha0 (by decide)
  rw [w64 (n := d * a) (by omega) (by omega)]
  have q0 : 0 ≤ Int.tdiv (d * a) W := Int.tdiv_nonneg p0 hW
  have q1 : Int.tdiv (d * a) W ≤ d * a := by rw [Int.tdiv_eq_ediv_of_nonneg p0]; exact Int.ediv_le_self _ p0
  exact w64 (by omega) (by omega)
theorem share_j (d w : Int) (l : List Int) (k : Nat) (hk : 67 ≤ k) (h0 : 0 ≤ d) (h1 : d ≤ 1099511627776) (hw0 : 0 ≤ w) (hw : w ≤ 88761) :
    weight_Share.j0 k d l w false = some (if (smf l).2 = 0 then (if (smf l).1 = 0 then (0, 1) else (Int.tdiv (d * w) (smf l).1, 0)) else (0, (smf l).2)) := by
  obtain ⟨k, rfl⟩ : ∃ m, k = m + 1 := ⟨k - 1, by omega⟩
  simp only [weight_Share.j0, Bool.false_eq_true, if_false]
  rw [sum_ l k (by omega), Option.bind_some]
  have hs : 0 ≤ (smf l).1 := by
    unfold smf; split
    · simp
    · exact (sm_bd l 0 (by omega)).1
  rw [share_wrap h0 h1 hw0 hw hs]
  by_cases e : (smf l).2 = 0
  · rw [if_pos e, if_pos e]
    split <;> rfl
  · rw [if_neg e, if_neg e]
theorem share_ (d nice : Int) (l : List Int) (k : Nat) (hk : 67 ≤ k) : weight_Share.f k d nice l = some (shv d nice l) := by
  unfold weight_Share.f shv
  rw [of_, Option.bind_some]
  have bad : ∀ w, weight_Share.j0 k d l w true = some (0, 1) := by
    intro w
    obtain ⟨k, rfl⟩ : ∃ m, k = m + 1 := ⟨k - 1, by omega⟩
    simp [weight_Share.j0]
  by_cases c : -20 ≤ nice ∧ nice ≤ 19
  · rw [ofv_in c.1 c.2]; dsimp only
    rw [if_pos rfl]
    by_cases c1 : d < 0
    · rw [if_pos c1, if_neg (by omega), bad]
    · rw [if_neg c1]
      by_cases c2 : d > 1099511627776
      · rw [decide_eq_true c2, if_neg (by omega), bad]
      · have b := wt_bd c.1 c.2
        rw [decide_eq_false c2, if_pos (by omega)]
        exact share_j d (wt nice) l k hk (by omega) (by omega) (by omega) (by omega)
  · unfold ofv; rw [if_neg c]; dsimp only
    rw [if_neg (by decide), if_neg (by omega), bad]
theorem rof (a : Int) (ha0 : -9223372036854775808 ≤ a) (ha1 : a < 9223372036854775808) : turnspitref02_Of.f a = some (ofv a) := by
  unfold turnspitref02_Of.f turnspitref02_weights.f ofv wt
  by_cases c1 : a < -20
  · rw [if_pos c1, if_neg (by omega)]
  · rw [if_neg c1]
    by_cases c2 : a > 19
    · rw [if_pos c2, if_neg (by omega)]
    · rw [if_neg c2, Option.bind_some, w64 (by omega) (by omega), if_pos (by omega), if_pos (by simp; omega), if_pos (by omega)]; rfl

theorem rsum_loop (l : List Int) (hl : l.length ≤ 64) (hw : ∀ x ∈ l, (Lit.int .i64 x).wf = true) (d : Nat) : ∀ (k i : Nat) (n : Int), i + d = l.length → d < k → 0 ≤ n → n ≤ 88761 * i →
    turnspitref02_Sum.l0 k l n i = some (sm n (l.drop i)) := by
  induction d with
  | zero =>
    intro k i n hi hk hn0 hn1
    obtain ⟨k, rfl⟩ : ∃ m, k = m + 1 := ⟨k - 1, by omega⟩
    simp only [turnspitref02_Sum.l0]
    rw [if_neg (by omega), List.drop_eq_nil_of_le (by omega)]; rfl
  | succ d ih =>
    intro k i n hi hk hn0 hn1
    obtain ⟨k, rfl⟩ : ∃ m, k = m + 1 := ⟨k - 1, by omega⟩
    have hlt : i < l.length := by omega
    simp only [turnspitref02_Sum.l0]
    have er : rd l (i : Int) = l[i] := by unfold rd; simp [hlt]
    have gx := wfi (hw l[i] (List.getElem_mem hlt))
    rw [if_pos (by omega), if_pos (by omega), er, rof _ gx.1 gx.2, Option.bind_some, List.drop_eq_getElem_cons hlt]
    unfold sm ofv
    by_cases c : -20 ≤ l[i] ∧ l[i] ≤ 19
    · have b := wt_bd c.1 c.2
      rw [if_pos c, if_pos c]
      dsimp only
      rw [if_pos rfl, w64 (by omega) (by omega), w64 (by omega) (by omega)]
      have := ih k (i + 1) (n + wt l[i]) (by omega) (by omega) (by omega) (by omega)
      rw [show ((i : Int) + 1) = ((i + 1 : Nat) : Int) by omega]
      exact this
    · rw [if_neg c, if_neg c]
      dsimp only
      rw [if_neg (by decide)]
theorem rsum (l : List Int) (hw : ∀ x ∈ l, (Lit.int .i64 x).wf = true) (k : Nat) (hk : 66 ≤ k) : turnspitref02_Sum.f k l = some (smf l) := by
  unfold turnspitref02_Sum.f smf
  by_cases c : l.length > 64
  · rw [if_pos (by omega), if_pos c]
  · rw [if_neg (by omega), if_neg c]
    exact rsum_loop l (by omega) hw l.length k 0 0 (by omega) (by omega) (by omega) (by omega)
theorem rshare (d nice : Int) (l : List Int) (hw : ∀ x ∈ l, (Lit.int .i64 x).wf = true) (hn0 : -9223372036854775808 ≤ nice) (hn1 : nice < 9223372036854775808) (k : Nat) (hk : 67 ≤ k) : turnspitref02_Share.f k d nice l = some (shv d nice l) := by
  unfold turnspitref02_Share.f shv
  rw [rof nice hn0 hn1, Option.bind_some]
  have bad : ∀ w, turnspitref02_Share.j0 k d l w true = some (0, 1) := by
    intro w
    obtain ⟨k, rfl⟩ : ∃ m, k = m + 1 := ⟨k - 1, by omega⟩
    simp [turnspitref02_Share.j0]
  by_cases c1 : d < 0
  · rw [if_pos c1, if_neg (by omega), bad]
  rw [if_neg c1]
  by_cases c2 : d > 1099511627776
  · rw [if_pos c2, if_neg (by omega), bad]
  rw [if_neg c2]
  by_cases c : -20 ≤ nice ∧ nice ≤ 19
  · have b := wt_bd c.1 c.2
    rw [ofv_in c.1 c.2, if_pos (by omega)]; dsimp only
    rw [show ((0 : Int) != 0) = false from rfl]
    obtain ⟨k, rfl⟩ : ∃ m, k = m + 1 := ⟨k - 1, by omega⟩
    simp only [turnspitref02_Share.j0, Bool.false_eq_true, if_false]
    rw [rsum l hw k (by omega), Option.bind_some]
    have hs : 0 ≤ (smf l).1 := by
      unfold smf; split
      · simp
      · exact (sm_bd l 0 (by omega)).1
    rw [share_wrap (by omega) (by omega) (by omega) (by omega) hs]
    by_cases e : (smf l).2 = 0
    · rw [if_pos e, if_pos e]
      split <;> rfl
    · rw [if_neg e, if_neg e]
  · unfold ofv; rw [if_neg c, if_neg (by omega)]; dsimp only
    rw [show ((1 : Int) != 0) = true from rfl, bad]
theorem WeightShares : turnspitlaw02_WeightShares.Pure := by
  intro d nice l hd hn hl hl8 hw
  have gn := wfi hn
  refine ⟨100, ?_⟩
  unfold turnspitlaw02_WeightShares.f
  by_cases c : (l.length : Int) > 100
  · rw [if_pos c, awk (by omega), Option.bind_some]
  · rw [if_neg c, sum_ l 100 (by omega), Option.bind_some, rsum l hw 100 (by omega), Option.bind_some, share_ d nice l 100 (by omega), Option.bind_some, rshare d nice l hw gn.1 gn.2 100 (by omega), Option.bind_some, awk (by omega), Option.bind_some,
      if_pos rfl, if_pos rfl, if_pos rfl, if_pos rfl, beq_self_eq_true]

end Go.Proofs.YteppeacpjpgobaaDoor.Pure
