/- Plain arithmetic for the numbers of 128 bits: products by quarters, a division bit by bit. No program in sight. -/
import Derived.Laws.BitsLemmas
import Derived.RowKit
namespace Go.Proofs.YteppeacpjpgobaaDoor.WideMath
open Go.RowKit Go

theorem wu (n : Int) : IntKind.u64.wrap n = n % 18446744073709551616 := by
  unfold IntKind.wrap; simp [IntKind.signed, IntKind.bits]
theorem wid {n : Int} (h0 : 0 ≤ n) (h1 : n < 18446744073709551616) : IntKind.u64.wrap n = n := by rw [wu]; omega
theorem wids (n : Int) (h₀ : 0 ≤ n) (h₁ : n < 2 ^ 64) : IntKind.u64.wrap n = n := by rw [wu]; omega
theorem and1 (x : Int) (h0 : 0 ≤ x) (h1 : x < 18446744073709551616) : bits .and .u64 x 1 = x % 2 := bits_mask .u64 64 (by decide) wids 1 (by decide) x h0 h1
theorem and32 (x : Int) (h0 : 0 ≤ x) (h1 : x < 18446744073709551616) : bits .and .u64 x 4294967295 = x % 4294967296 := bits_mask .u64 64 (by decide) wids 32 (by decide) x h0 h1
theorem or1 (x y : Int) (h0 : 0 ≤ x) (h2 : x % 2 = 0) (h1 : x < 18446744073709551616) (hy0 : 0 ≤ y) (hy : y ≤ 1) : bits .or .u64 x y = x + y :=
  bits_join .u64 64 (by decide) wids 1 x y h0 (by simpa using h2) h1 hy0 (by simp; omega) (by simp; omega)
theorem or32 (x y : Int) (h0 : 0 ≤ x) (h2 : x % 4294967296 = 0) (h1 : x < 18446744073709551616) (hy0 : 0 ≤ y) (hy : y < 4294967296) : bits .or .u64 x y = x + y :=
  bits_join .u64 64 (by decide) wids 32 x y h0 (by simpa using h2) h1 hy0 (by simpa using hy) (by simp; omega)

theorem mul_bd {x q : Int} (hx0 : 0 ≤ x) (hx : x ≤ 4294967295) (hq0 : 0 ≤ q) (hq : q ≤ 4294967295) : 0 ≤ x * q ∧ x * q ≤ 18446744065119617025 := by
  refine ⟨Int.mul_nonneg hx0 hq0, ?_⟩
  have h := Int.mul_le_mul hx hq hq0 (by decide : (0 : Int) ≤ 4294967295)
  simpa using h

/-- one product, by its quarters -/
theorem mul_parts (x y p q : Int) :
    (x * 4294967296 + y) * (p * 4294967296 + q) = (x * p) * 18446744073709551616 + (x * q + y * p) * 4294967296 + y * q := by
  have e1 : x * 4294967296 * (p * 4294967296) = x * p * 18446744073709551616 := by
    rw [Int.mul_assoc, Int.mul_left_comm 4294967296 p 4294967296, ← Int.mul_assoc]; rfl
  have e2 : x * 4294967296 * q = x * q * 4294967296 := Int.mul_right_comm _ _ _
  have e3 : y * (p * 4294967296) = y * p * 4294967296 := (Int.mul_assoc _ _ _).symm
  rw [Int.add_mul, Int.mul_add, Int.mul_add, e1, e2, e3, Int.add_mul]; omega

/-- a number, one more bit behind it: its quotient and what is left over -/
theorem step_yes {n b d : Int} (hd : 0 < d) (h0 : 0 ≤ b) (h1 : b ≤ 1) (h : d ≤ 2 * (n % d) + b) : (2 * n + b) / d = 2 * (n / d) + 1 ∧ (2 * n + b) % d = 2 * (n % d) + b - d := by
  have e := Int.mul_ediv_add_emod n d
  have l := Int.emod_lt_of_pos n hd
  have g := Int.emod_nonneg n (show d ≠ 0 by omega)
  refine (Int.ediv_emod_unique hd).2 ⟨?_, by omega, by omega⟩
  have e2 : d * (2 * (n / d) + 1) = 2 * (d * (n / d)) + d := by rw [Int.mul_add, Int.mul_one, Int.mul_left_comm]
  rw [e2]; omega
theorem step_no {n b d : Int} (hd : 0 < d) (h0 : 0 ≤ b) (h : 2 * (n % d) + b < d) : (2 * n + b) / d = 2 * (n / d) ∧ (2 * n + b) % d = 2 * (n % d) + b := by
  have e := Int.mul_ediv_add_emod n d
  have g := Int.emod_nonneg n (show d ≠ 0 by omega)
  refine (Int.ediv_emod_unique hd).2 ⟨?_, by omega, by omega⟩
  have e2 : d * (2 * (n / d)) = 2 * (d * (n / d)) := Int.mul_left_comm _ _ _
  rw [e2]; omega

/-- a bit -/
abbrev B1 := { x : Int // 0 ≤ x ∧ x ≤ 1 }
/-- h, and behind it the bits that have come -/
def num (h : Int) : List B1 → Int := List.foldl (fun n x => 2 * n + x.1) h
theorem num_snoc (h : Int) (pre : List B1) (x : B1) : num h (pre ++ [x]) = 2 * num h pre + x.1 := by simp [num]
theorem num_lo (h : Int) (h0 : 0 ≤ h) (pre : List B1) : 0 ≤ num h pre := by
  induction pre generalizing h with
  | nil => exact h0
  | cons x t ih => exact ih (2 * h + x.1) (by have := x.2; omega)
theorem num_hi (h : Int) (pre : List B1) : num h pre + 1 ≤ (h + 1) * 2 ^ pre.length := by
  induction pre generalizing h with
  | nil => simp [num]
  | cons x t ih =>
    refine Int.le_trans (ih (2 * h + x.1)) ?_
    rw [List.length_cons, Int.pow_succ', ← Int.mul_assoc]
    exact Int.mul_le_mul_of_nonneg_right (by have := x.2; omega) (Int.pow_nonneg (by decide))
theorem quot_hi {h d : Int} (hd : 0 < d) (hh : h < d) (pre : List B1) (hl : pre.length < 64) : num h pre / d < 9223372036854775808 := by
  have a := num_hi h pre
  have b : (h + 1) * 2 ^ pre.length ≤ d * 9223372036854775808 := by
    refine Int.le_trans (Int.mul_le_mul_of_nonneg_right (show h + 1 ≤ d by omega) (Int.pow_nonneg (by decide))) (Int.mul_le_mul_of_nonneg_left ?_ (by omega))
    have : (2 : Int) ^ pre.length ≤ 2 ^ 63 := by exact_mod_cast Nat.pow_le_pow_right (by decide : 0 < 2) (show pre.length ≤ 63 by omega)
    exact this
  have c : num h pre < 9223372036854775808 * d := by rw [Int.mul_comm]; omega
  exact Int.ediv_lt_of_lt_mul hd c

/-- the k-th bit from the top -/
def bit (l : Int) (k : Nat) : B1 := ⟨l / 2 ^ (63 - k) % 2, by omega⟩
def bitsOf (l : Int) (k : Nat) : List B1 := (List.range k).map (bit l)
theorem bitsOf_succ (l : Int) (k : Nat) : bitsOf l (k + 1) = bitsOf l k ++ [bit l k] := by simp [bitsOf, List.range_succ]
theorem bitsOf_length (l : Int) (k : Nat) : (bitsOf l k).length = k := by simp [bitsOf]
theorem num_bits (h l : Int) (h0 : 0 ≤ l) (h1 : l < 18446744073709551616) (k : Nat) (hk : k ≤ 64) : num h (bitsOf l k) = h * 2 ^ k + l / 2 ^ (64 - k) := by
  induction k with
  | zero => simp [bitsOf, num]; omega
  | succ k ih =>
    rw [bitsOf_succ, num_snoc, ih (by omega)]
    have e : 64 - k = (63 - k) + 1 := by omega
    have e' : 64 - (k + 1) = 63 - k := by omega
    have hp : (0 : Int) < 2 ^ (63 - k) := Int.pow_pos (by decide)
    show 2 * (h * 2 ^ k + l / 2 ^ (64 - k)) + l / 2 ^ (63 - k) % 2 = h * 2 ^ (k + 1) + l / 2 ^ (64 - (k + 1))
    rw [e, e', Int.pow_succ 2 (63 - k), ← Int.ediv_ediv_of_nonneg (Int.le_of_lt hp), Int.pow_succ 2 k, Int.mul_add, ← Int.mul_assoc h, Int.mul_comm (h * 2 ^ k) 2]
    omega
theorem num_all (h l : Int) (h0 : 0 ≤ l) (h1 : l < 18446744073709551616) : num h (bitsOf l 64) = h * 18446744073709551616 + l := by
  rw [num_bits h l h0 h1 64 (Nat.le_refl _)]; simp

end Go.Proofs.YteppeacpjpgobaaDoor.WideMath
