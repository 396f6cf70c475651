/- A list's sum does not hang on its order, and two lists' sums add up. For every input of the given kinds; no condition. -/
import Derived.Test.YteppeacpjpgobaaDoorQWeightSumsx2
import Derived.Test.YteppeacpjpgobaaDoorMath
import Derived.Test.YteppeacpjpgobaaDoorTable
namespace Go.Proofs.YteppeacpjpgobaaDoor.Pure
set_option linter.unusedSimpArgs false
set_option linter.unusedVariables false
open Go.RowKit Go.Proofs.YteppeacpjpgobaaDoor.QWeightSums Go.Proofs.YteppeacpjpgobaaDoorW.PrintWords Go.Proofs.YteppeacpjpgobaaDoorW.PrintLast Go.Proofs.YteppeacpjpgobaaDoorW.PrintMore Go.Proofs.YteppeacpjpgobaaDoor.WideMath

theorem wfu {n : Int} (h : (Lit.int .u64 n).wf = true) : 0 ≤ n ∧ n < 18446744073709551616 := by
  simp [Lit.wf, IntKind.min, IntKind.max, IntKind.signed, IntKind.bits] at h; omega
theorem prod_bd {a b : Int} (ha0 : 0 ≤ a) (ha1 : a < 18446744073709551616) (hb0 : 0 ≤ b) (hb1 : b < 18446744073709551616) : 0 ≤ a * b ∧ a * b ≤ 340282366920938463426481119284349108225 := by
  refine ⟨Int.mul_nonneg ha0 hb0, ?_⟩
  have h := Int.mul_le_mul (show a ≤ 18446744073709551615 by omega) (show b ≤ 18446744073709551615 by omega) hb0 (by decide)
  simpa using h
theorem mul (a b : Int) (ha0 : 0 ≤ a) (ha1 : a < 18446744073709551616) (hb0 : 0 ≤ b) (hb1 : b < 18446744073709551616) :
    wide_Mul.f a b = some (a * b / 18446744073709551616, a * b % 18446744073709551616) := by
  unfold wide_Mul.f
  rw [and32 a ha0 ha1, and32 b hb0 hb1]
  obtain ⟨x, hx⟩ : ∃ x, a / 4294967296 = x := ⟨_, rfl⟩
  obtain ⟨y, hy⟩ : ∃ y, a % 4294967296 = y := ⟨_, rfl⟩
  obtain ⟨p, hp⟩ : ∃ p, b / 4294967296 = p := ⟨_, rfl⟩
  obtain ⟨q, hq⟩ : ∃ q, b % 4294967296 = q := ⟨_, rfl⟩
  have ea : a = x * 4294967296 + y := by omega
  have eb : b = p * 4294967296 + q := by omega
  have hm := mul_parts x y p q
  rw [← ea, ← eb] at hm
  rw [hx, hy, hp, hq]
  have b1 := mul_bd (x := x) (q := p) (by omega) (by omega) (by omega) (by omega)
  have b2 := mul_bd (x := x) (q := q) (by omega) (by omega) (by omega) (by omega)
  have b3 := mul_bd (x := y) (q := p) (by omega) (by omega) (by omega) (by omega)
  have b4 := mul_bd (x := y) (q := q) (by omega) (by omega) (by omega) (by omega)
  have b5 := prod_bd ha0 ha1 hb0 hb1
  clear hx hy hp hq ea eb
  generalize x * p = A at *
  generalize x * q = B at *
  generalize y * p = C at *
  generalize y * q = D at *
  generalize a * b = P at *
  have w1 : IntKind.u64.wrap A = A := wid (by omega) (by omega)
  have w2 : IntKind.u64.wrap B = B := wid (by omega) (by omega)
  have w3 : IntKind.u64.wrap C = C := wid (by omega) (by omega)
  have w4 : IntKind.u64.wrap D = D := wid (by omega) (by omega)
  rw [w1, w2, w3, w4]
  have w5 : IntKind.u64.wrap (B + D / 4294967296) = B + D / 4294967296 := wid (by omega) (by omega)
  rw [w5, and32 (B + D / 4294967296) (by omega) (by omega), and32 D (by omega) (by omega)]
  have w6 : IntKind.u64.wrap (C + (B + D / 4294967296) % 4294967296) = C + (B + D / 4294967296) % 4294967296 := wid (by omega) (by omega)
  rw [w6]
  have w7 : IntKind.u64.wrap (A + (B + D / 4294967296) / 4294967296) = A + (B + D / 4294967296) / 4294967296 := wid (by omega) (by omega)
  rw [w7]
  have w8 : IntKind.u64.wrap (A + (B + D / 4294967296) / 4294967296 + (C + (B + D / 4294967296) % 4294967296) / 4294967296) = P / 18446744073709551616 := by rw [wu]; omega
  rw [w8]
  have w9 : IntKind.u64.wrap ((C + (B + D / 4294967296) % 4294967296) * 4294967296) = ((C + (B + D / 4294967296) % 4294967296) % 4294967296) * 4294967296 := by rw [wu]; omega
  rw [w9, or32 _ _ (by omega) (by omega) (by omega) (by omega) (by omega)]
  have w10 : (C + (B + D / 4294967296) % 4294967296) % 4294967296 * 4294967296 + D % 4294967296 = P % 18446744073709551616 := by omega
  rw [w10]
theorem div (h l d : Int) (hh0 : 0 ≤ h) (hl0 : 0 ≤ l) (hl1 : l < 18446744073709551616) (hd1 : d < 18446744073709551616) :
    wide_Div.f h l d = if d ≤ h then some (0, 0, false) else some ((h * 18446744073709551616 + l) / d, (h * 18446744073709551616 + l) % d, true) := by
  unfold wide_Div.f; rw [if_pos ⟨hh0, hl0, by omega, by omega⟩]; rfl
def scl (P d : Int) : Int := if d ≤ P / 18446744073709551616 then 18446744073709551615 else P / d
theorem scale (a b d : Int) (ha0 : 0 ≤ a) (ha1 : a < 18446744073709551616) (hb0 : 0 ≤ b) (hb1 : b < 18446744073709551616) (hd1 : d < 18446744073709551616) :
    wide_Scale.f a b d = some (scl (a * b) d) := by
  have bd := prod_bd ha0 ha1 hb0 hb1
  unfold wide_Scale.f scl
  rw [mul a b ha0 ha1 hb0 hb1]; simp only [Option.bind_some]
  rw [div _ _ _ (by omega) (by omega) (by omega) hd1]
  have e : a * b / 18446744073709551616 * 18446744073709551616 + a * b % 18446744073709551616 = a * b := by omega
  by_cases c : d ≤ a * b / 18446744073709551616
  · rw [if_pos c, if_pos c]; rfl
  · rw [if_neg c, if_neg c, e]; rfl

theorem wfi {n : Int} (h : (Lit.int .i64 n).wf = true) : -9223372036854775808 ≤ n ∧ n < 9223372036854775808 := by
  simp [Lit.wf, IntKind.min, IntKind.max, IntKind.signed, IntKind.bits] at h; omega
theorem wf8 {n : Int} (h : (Lit.int .u8 n).wf = true) : 0 ≤ n ∧ n < 256 := by
  simp [Lit.wf, IntKind.min, IntKind.max, IntKind.signed, IntKind.bits] at h; omega
theorem w64 {n : Int} (h0 : -9223372036854775808 ≤ n) (h1 : n < 9223372036854775808) : wrap64 n = n := by unfold wrap64; omega
theorem awk {k : Nat} (hk : 10 ≤ k) : turnspitlaw02_awake.f k = some true :=
  at_rounds (g := fun k => turnspitlaw02_awake.f k) (fun k => turnspitlaw02_awake.mono k) hk (by decide +kernel)
/-- a nice's weight -/
def wt (a : Int) : Int := rd Table.ws (a + 20)
theorem wt_at (j : Nat) : wt ((j : Int) - 20) = Table.ws.getD j 0 := by
  unfold wt rd; rw [show (j : Int) - 20 + 20 = j by omega]; rfl
theorem nat_of {a : Int} (h0 : -20 ≤ a) (h1 : a ≤ 19) : ∃ j : Nat, j < 40 ∧ a = (j : Int) - 20 := ⟨(a + 20).toNat, by omega, by omega⟩
theorem wt_bd {a : Int} (h0 : -20 ≤ a) (h1 : a ≤ 19) : 15 ≤ wt a ∧ wt a ≤ 88761 := by
  obtain ⟨j, hj, rfl⟩ := nat_of h0 h1
  rw [wt_at]
  have : ∀ i : Fin 40, 15 ≤ Table.ws.getD i.1 0 ∧ Table.ws.getD i.1 0 ≤ 88761 := by decide
  exact this ⟨j, hj⟩
def ofv (a : Int) : Int × Int := if -20 ≤ a ∧ a ≤ 19 then (wt a, 0) else (0, 1)
theorem of_ (a : Int) : weight_Of.f a = some (ofv a) := by
  unfold weight_Of.f Table.Of.f ofv wt
  by_cases c1 : a < -20
  · rw [if_pos c1, if_neg (by omega)]
  · rw [if_neg c1]
    by_cases c2 : a > 19
    · rw [if_pos c2, if_neg (by omega)]
    · rw [if_neg c2, if_pos (by omega)]
theorem ofv_in {a : Int} (h0 : -20 ≤ a) (h1 : a ≤ 19) : ofv a = (wt a, 0) := by unfold ofv; rw [if_pos ⟨h0, h1⟩]
def dl (d w : Int) : Int × Int := if d < 0 ∨ w < 1 then (0, 1) else (mn (scl (d * 1024) w) 281474976710656, 0)
theorem dl_in {d w : Int} (h0 : 0 ≤ d) (h1 : 1 ≤ w) : dl d w = (mn (scl (d * 1024) w) 281474976710656, 0) := by unfold dl; rw [if_neg (by omega)]
theorem scl_lo {P d : Int} (h : 0 ≤ P) (hd : 0 ≤ d) : 0 ≤ scl P d := by
  unfold scl; split
  · omega
  · exact Int.ediv_nonneg h hd
theorem delta (d w : Int) (hd : d < 9223372036854775808) (hw : w < 9223372036854775808) : weight_Delta.f d w = some (dl d w) := by
  unfold weight_Delta.f dl
  by_cases c1 : d < 0
  · rw [if_pos c1, if_pos (by omega)]
  · rw [if_neg c1]
    by_cases c2 : w < 1
    · rw [if_pos c2, if_pos (by omega)]
    · rw [if_neg c2, if_neg (by omega), wid (n := d) (by omega) (by omega), wid (n := w) (by omega) (by omega), scale d 1024 w (by omega) (by omega) (by omega) (by omega) (by omega), Option.bind_some]
      have := scl_lo (P := d * 1024) (d := w) (by omega) (by omega)
      rw [w64]
      · unfold mn; split <;> omega
      · unfold mn; split <;> omega
/-- the sum of a list, on top of some -/
def sm : Int → List Int → Int × Int
  | n, [] => (n, 0)
  | n, x :: t => if -20 ≤ x ∧ x ≤ 19 then sm (n + wt x) t else (0, 1)
theorem sum_loop (l : List Int) (hl : l.length ≤ 64) (d : Nat) : ∀ (k i : Nat) (n : Int), i + d = l.length → d < k → 0 ≤ n → n ≤ 88761 * i →
    weight_Sum.l0 k n l (l.length : Int) i = some (sm n (l.drop i)) := by
  induction d with
  | zero =>
    intro k i n hi hk hn0 hn1
    obtain ⟨k, rfl⟩ : ∃ m, k = m + 1 := ⟨k - 1, by omega⟩
    simp only [weight_Sum.l0]
    rw [if_neg (by omega), List.drop_eq_nil_of_le (by omega)]; rfl
  | succ d ih =>
    intro k i n hi hk hn0 hn1
    obtain ⟨k, rfl⟩ : ∃ m, k = m + 1 := ⟨k - 1, by omega⟩
    have hlt : i < l.length := by omega
    simp only [weight_Sum.l0]
    rw [if_pos (by omega), if_pos (by omega), if_pos (by omega), of_, Option.bind_some]
    have er : rd l (i : Int) = l[i] := by unfold rd; simp [hlt]
    rw [er, List.drop_eq_getElem_cons hlt]
    unfold sm ofv
    by_cases c : -20 ≤ l[i] ∧ l[i] ≤ 19
    · have b := wt_bd c.1 c.2
      rw [if_pos c, if_pos c]
      dsimp only
      rw [if_pos rfl, w64 (by omega) (by omega), w64 (by omega) (by omega)]
      have := ih k (i + 1) (n + wt l[i]) (by omega) (by omega) (by omega) (by omega)
      rw [show ((i : Int) + 1) = ((i + 1 : Nat) : Int) by omega]
      exact this
    · rw [if_neg c, if_neg c]
      dsimp only
      rw [if_neg (by decide)]
def smf (l : List Int) : Int × Int := if l.length > 64 then (0, 2) else sm 0 l
theorem sum_ (l : List Int) (k : Nat) (hk : 66 ≤ k) : weight_Sum.f k l = some (smf l) := by
  unfold weight_Sum.f smf
  by_cases c : l.length > 64
  · rw [if_pos (by omega), if_pos c]
  · rw [if_neg (by omega), if_neg c]
    exact sum_loop l (by omega) l.length k 0 0 (by omega) (by omega) (by omega) (by omega)
theorem sm_bd : ∀ (l : List Int) (n : Int), 0 ≤ n → 0 ≤ (sm n l).1 ∧ (sm n l).1 ≤ n + 88761 * l.length := by
  intro l
  induction l with
  | nil => intro n hn; simp [sm]; omega
  | cons x t ih =>
    intro n hn
    unfold sm
    split
    · rename_i c
      have b := wt_bd c.1 c.2
      have := ih (n + wt x) (by omega)
      rw [List.length_cons]; omega
    · simp; omega
def shv (d nice : Int) (l : List Int) : Int × Int :=
  if (-20 ≤ nice ∧ nice ≤ 19) ∧ 0 ≤ d ∧ d ≤ 1099511627776 then
    (if (smf l).2 = 0 then (if (smf l).1 = 0 then (0, 1) else (Int.tdiv (d * wt nice) (smf l).1, 0)) else (0, (smf l).2)) else (0, 1)
theorem share_wrap {d a W : Int} (h0 : 0 ≤ d) (h1 : d ≤ 1099511627776) (ha0 : 0 ≤ a) (ha : a ≤ 88761) (hW : 0 ≤ W) : wrap64 (Int.tdiv (wrap64 (d * a)) W) = Int.tdiv (d * a) W := by
  have p0 : 0 ≤ d * a := Int.mul_nonneg h0 ha0
  have p1 : d * a ≤ 1099511627776 * 88761 := Int.mul_le_mul h1 ha ha0 (by decide)
  rw [w64 (n := d * a) (by omega) (by omega)]
  have q0 : 0 ≤ Int.tdiv (d * a) W := Int.tdiv_nonneg p0 hW
  have q1 : Int.tdiv (d * a) W ≤ d * a := by rw [Int.tdiv_eq_ediv_of_nonneg p0]; exact Int.ediv_le_self _ p0
  exact w64 (by omega) (by omega)
theorem share_j (d w : Int) (l : List Int) (k : Nat) (hk : 67 ≤ k) (h0 : 0 ≤ d) (h1 : d ≤ 1099511627776) (hw0 : 0 ≤ w) (hw : w ≤ 88761) :
    weight_Share.j0 k d l w false = some (if (smf l).2 = 0 then (if (smf l).1 = 0 then (0, 1) else (Int.tdiv (d * w) (smf l).1, 0)) else (0, (smf l).2)) := by
  obtain ⟨k, rfl⟩ : ∃ m, k = m + 1 := ⟨k - 1, by omega⟩
  simp only [weight_Share.j0, Bool.false_eq_true, if_false]
  rw [sum_ l k (by omega), Option.bind_some]
  have hs : 0 ≤ (smf l).1 := by
    unfold smf; split
    · simp
    · exact (sm_bd l 0 (by omega)).1
  rw [share_wrap h0 h1 hw0 hw hs]
  by_cases e : (smf l).2 = 0
  · rw [if_pos e, if_pos e]
    split <;> rfl
  · rw [if_neg e, if_neg e]
theorem share_ (d nice : Int) (l : List Int) (k : Nat) (hk : 67 ≤ k) : weight_Share.f k d nice l = some (shv d nice l) := by
  unfold weight_Share.f shv
  rw [of_, Option.bind_some]
  have bad : ∀ w, weight_Share.j0 k d l w true = some (0, 1) := by
    intro w
    obtain ⟨k, rfl⟩ : ∃ m, k = m + 1 := ⟨k - 1, by omega⟩
    simp [weight_Share.j0]
  by_cases c : -20 ≤ nice ∧ nice ≤ 19
  · rw [ofv_in c.1 c.2]; dsimp only
    rw [if_pos rfl]
    by_cases c1 : d < 0
    · rw [if_pos c1, if_neg (by omega), bad]
    · rw [if_neg c1]
      by_cases c2 : d > 1099511627776
      · rw [decide_eq_true c2, if_neg (by omega), bad]
      · have b := wt_bd c.1 c.2
        rw [decide_eq_false c2, if_pos (by omega)]
        exact share_j d (wt nice) l k hk (by omega) (by omega) (by omega) (by omega)
  · unfold ofv; rw [if_neg c]; dsimp only
    rw [if_neg (by decide), if_neg (by omega), bad]
def nz (x : Int) : Int := (-20) + x % 40
theorem nz_in (x : Int) : -20 ≤ nz x ∧ nz x ≤ 19 := by unfold nz; omega
theorem sm_all (l : List Int) (h : ∀ x ∈ l, -20 ≤ x ∧ x ≤ 19) : ∀ n, sm n l = (n + (l.map wt).sum, 0) := by
  induction l with
  | nil => intro n; simp [sm]
  | cons x s ih =>
    intro n
    unfold sm
    rw [if_pos (h x (by simp)), ih (fun y hy => h y (by simp [hy]))]
    simp; omega
theorem sum_bd (l : List Int) (h : ∀ x ∈ l, -20 ≤ x ∧ x ≤ 19) : 15 * (l.length : Int) ≤ (l.map wt).sum ∧ (l.map wt).sum ≤ 88761 * l.length := by
  induction l with
  | nil => simp
  | cons x s ih =>
    have := ih (fun y hy => h y (by simp [hy]))
    have b := wt_bd (h x (by simp)).1 (h x (by simp)).2
    simp only [List.map_cons, List.sum_cons, List.length_cons, Int.natCast_add]; omega

theorem en (l : List Int) (hw : ∀ x ∈ l, (Lit.int .u8 x).wf = true) (i : Nat) (hlt : i < l.length) : wrap64 ((-20) + (Int.tmod (wrap64 (rd l (i : Int))) 40)) = nz l[i] := by
  have er : rd l (i : Int) = l[i] := by unfold rd; simp [hlt]
  have gx := wf8 (hw l[i] (List.getElem_mem hlt))
  have := nz_in l[i]
  rw [er, w64 (n := l[i]) (by omega) (by omega), Int.tmod_eq_emod_of_nonneg gx.1]; exact w64 (by unfold nz at this; omega) (by unfold nz at this; omega)
theorem takes (l : List Int) (i : Nat) (hlt : i < l.length) : (l.take i).map nz ++ [nz l[i]] = (l.take (i + 1)).map nz := by
  rw [List.take_succ_eq_append_getElem hlt, List.map_append]; rfl
theorem bx (a b : List Int) (ok : Bool) (hl : a.length ≤ 30) (hw : ∀ x ∈ a, (Lit.int .u8 x).wf = true) (d : Nat) : ∀ (k i : Nat), i + d = a.length →
    turnspitlaw02_WeightSums.l0 (k + d + 1) a b ok ((a.take i).map nz) i = turnspitlaw02_WeightSums.l1 k b ok (a.map nz) [] 0 := by
  induction d with
  | zero =>
    intro k i hi
    simp only [turnspitlaw02_WeightSums.l0]
    rw [if_neg (by omega), List.take_of_length_le (by omega)]
  | succ d ih =>
    intro k i hi
    have hlt : i < a.length := by omega
    rw [show k + (d + 1) + 1 = (k + d + 1) + 1 by omega]
    simp only [turnspitlaw02_WeightSums.l0]
    rw [if_pos (by omega), if_pos (by omega), if_pos (by simp; omega), en a hw i hlt, w64 (by omega) (by omega), takes a i hlt, show ((i : Int) + 1) = ((i + 1 : Nat) : Int) by omega]
    exact ih k (i + 1) (by omega)
theorem by_ (b : List Int) (ok : Bool) (X : List Int) (hX : X.length ≤ 30) (hl : b.length ≤ 30) (hw : ∀ x ∈ b, (Lit.int .u8 x).wf = true) (d : Nat) : ∀ (k i : Nat), i + d = b.length →
    turnspitlaw02_WeightSums.l1 (k + d + 1) b ok X ((b.take i).map nz) i = turnspitlaw02_WeightSums.l2 k ok X (b.map nz) (X ++ b.map nz) [] (((X ++ b.map nz).length : Int) - 1) := by
  induction d with
  | zero =>
    intro k i hi
    simp only [turnspitlaw02_WeightSums.l1]
    rw [if_neg (by omega), List.take_of_length_le (by omega), if_pos (by simp; omega), Option.bind_some, List.nil_append, if_pos (by simp; omega), Option.bind_some, w64 (by simp; omega) (by simp; omega)]
  | succ d ih =>
    intro k i hi
    have hlt : i < b.length := by omega
    rw [show k + (d + 1) + 1 = (k + d + 1) + 1 by omega]
    simp only [turnspitlaw02_WeightSums.l1]
    rw [if_pos (by omega), if_pos (by omega), if_pos (by simp; omega), en b hw i hlt, w64 (by omega) (by omega), takes b i hlt, show ((i : Int) + 1) = ((i + 1 : Nat) : Int) by omega]
    exact ih k (i + 1) (by omega)
def fin (k : Nat) (ok : Bool) (X Y Z R : List Int) : Option Bool :=
  (weight_Sum.f k X).bind fun bt150 => ((weight_Sum.f k Y).bind fun bt152 => ((weight_Sum.f k Z).bind fun bt154 => ((weight_Sum.f k R).bind fun bt156 => (if ok = true then (if bt150.2 = 0 then (if bt152.2 = 0 then (if bt154.2 = 0 then (if bt156.2 = 0 then (if bt154.1 = (wrap64 (bt150.1 + bt152.1)) then (some (bt156.1 == bt154.1)) else (some false)) else (some false)) else (some false)) else (some false)) else (some false)) else (some false)))))
theorem bz (ok : Bool) (X Y Z : List Int) (hZ : Z.length ≤ 60) (n : Nat) : ∀ (k : Nat), n ≤ Z.length →
    turnspitlaw02_WeightSums.l2 (k + n + 1) ok X Y Z (Z.drop n).reverse ((n : Int) - 1) = fin k ok X Y Z Z.reverse := by
  induction n with
  | zero =>
    intro k hn
    simp only [turnspitlaw02_WeightSums.l2]
    rw [if_neg (by omega)]; rfl
  | succ n ih =>
    intro k hn
    have hlt : n < Z.length := by omega
    have er : rd Z (n : Int) = Z[n] := by unfold rd; simp [hlt]
    rw [show k + (n + 1) + 1 = (k + n + 1) + 1 by omega, show ((n + 1 : Nat) : Int) - 1 = n by omega]
    simp only [turnspitlaw02_WeightSums.l2]
    rw [if_pos (by omega), if_pos (by omega), if_pos (by omega), if_pos (by simp; omega), er, w64 (by omega) (by omega)]
    have e : (Z.drop (n + 1)).reverse ++ [Z[n]] = (Z.drop n).reverse := by rw [List.drop_eq_getElem_cons hlt, List.reverse_cons]
    rw [e]
    exact ih k (by omega)
theorem smf_in (l : List Int) (hl : l.length ≤ 64) (h : ∀ x ∈ l, -20 ≤ x ∧ x ≤ 19) : smf l = ((l.map wt).sum, 0) := by
  unfold smf; rw [if_neg (by omega), sm_all l h 0]; simp
theorem WeightSums : turnspitlaw02_WeightSums.Pure := by
  intro a b ha ha1 hwa hb hb1 hwb
  refine ⟨400, ?_⟩
  unfold turnspitlaw02_WeightSums.f
  rw [awk (by omega), Option.bind_some, if_pos rfl]
  by_cases c0 : (a.length : Int) > 30
  · rw [if_pos c0]; rfl
  rw [if_neg c0]
  by_cases c1 : (b.length : Int) > 30
  · rw [decide_eq_true c1]; rfl
  rw [decide_eq_false c1]
  have j : turnspitlaw02_WeightSums.j0 400 a b true false = turnspitlaw02_WeightSums.l0 399 a b true [] 0 := by
    simp only [turnspitlaw02_WeightSums.j0, Bool.false_eq_true, if_false]
  have h1 := bx a b true (by omega) hwa a.length (398 - a.length) 0 (by omega)
  rw [show 398 - a.length + a.length + 1 = 399 by omega] at h1
  have h1' : turnspitlaw02_WeightSums.l0 399 a b true [] 0 = turnspitlaw02_WeightSums.l1 (398 - a.length) b true (a.map nz) [] 0 := h1
  have h2 := by_ b true (a.map nz) (by simp; omega) (by omega) hwb b.length (397 - a.length - b.length) 0 (by omega)
  rw [show 397 - a.length - b.length + b.length + 1 = 398 - a.length by omega] at h2
  have h2' : turnspitlaw02_WeightSums.l1 (398 - a.length) b true (a.map nz) [] 0 = _ := h2
  have hin : ∀ l : List Int, ∀ x ∈ l.map nz, -20 ≤ x ∧ x ≤ 19 := by
    intro l x hx; obtain ⟨y, _, rfl⟩ := List.mem_map.1 hx; exact nz_in y
  rw [j, h1', h2']
  have ba := sum_bd _ (hin a)
  have bb := sum_bd _ (hin b)
  have sa := smf_in (a.map nz) (by simp; omega) (hin a)
  have sb := smf_in (b.map nz) (by simp; omega) (hin b)
  have hZl : (a.map nz ++ b.map nz).length = a.length + b.length := by simp
  have hXl : (a.map nz).length = a.length := by simp
  have hYl : (b.map nz).length = b.length := by simp
  have hxin := hin a
  have hyin := hin b
  rw [hXl] at ba
  rw [hYl] at bb
  generalize a.map nz = X at *
  generalize b.map nz = Y at *
  have hzin : ∀ x ∈ X ++ Y, -20 ≤ x ∧ x ≤ 19 := by
    intro x hx
    rcases List.mem_append.1 hx with h | h
    · exact hxin x h
    · exact hyin x h
  have sz := smf_in (X ++ Y) (by omega) hzin
  have sr := smf_in (X ++ Y).reverse (by rw [List.length_reverse]; omega) (fun x hx => hzin x (List.mem_reverse.1 hx))
  rw [List.map_reverse, List.sum_reverse] at sr
  rw [List.map_append, List.sum_append] at sz sr
  have h3 := bz true X Y (X ++ Y) (by omega) (X ++ Y).length (396 - a.length - b.length - (X ++ Y).length) (Nat.le_refl _)
  rw [show 396 - a.length - b.length - (X ++ Y).length + (X ++ Y).length + 1 = 397 - a.length - b.length by omega, List.drop_length] at h3
  have h3' : turnspitlaw02_WeightSums.l2 (397 - a.length - b.length) true X Y (X ++ Y) [] (((X ++ Y).length : Int) - 1) = _ := h3
  rw [h3']
  unfold fin
  rw [sum_ X _ (by omega), Option.bind_some, sum_ Y _ (by omega), Option.bind_some, sum_ (X ++ Y) _ (by omega), Option.bind_some, sum_ (X ++ Y).reverse _ (by omega), Option.bind_some, sa, sb, sz, sr]
  dsimp only
  rw [if_pos rfl, if_pos rfl, if_pos rfl, if_pos rfl, if_pos rfl, w64 (by omega) (by omega), if_pos rfl, beq_self_eq_true]

end Go.Proofs.YteppeacpjpgobaaDoor.Pure
