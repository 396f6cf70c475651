/- Parts of the proof, joined: Srt. -/
import Derived.Test.YtnkhnnojdlgfjaaDoorUF3
import Derived.Test.YtnkhnnojdlgfjaaDoorUF24
import Derived.WalkKit
import Derived.KernelRfl
import Derived.Below
import Derived.Test.YtnkhnnojdlgfjaaDoorProg
import Derived.Lib.Hide
import Derived.Outline
import Derived.WalkSpells
import Derived.RegionTactic
import Derived.ChangeAlike
import Derived.BigRegion
import Derived.Deep.QuietTactic
import Derived.BigQuiet
import Derived.StillTailTactics
import Derived.IntWalk
namespace Go.Proofs.YtnkhnnojdlgfjaaDoor.Srt
open Go.RowKit Go Go.Proofs Go.Proofs.YtnkhnnojdlgfjaaDoor Go.Proofs.YtnkhnnojdlgfjaaDoor.Ky Go.Proofs.YtnkhnnojdlgfjaaDoorW.PrintWords Go.Proofs.YtnkhnnojdlgfjaaDoorW.PrintLast Go.Proofs.YtnkhnnojdlgfjaaDoorW.PrintMore
set_option linter.unusedVariables false
set_option linter.unusedSimpArgs false
def flat : List K → List Value
  | [] => []
  | x :: t => .int .u64 x.1 :: .int .i64 x.2 :: flat t
theorem flat_length : ∀ l : List K, (flat l).length = l.length * 2
  | [] => rfl
  | x :: t => by rw [flat, List.length_cons, List.length_cons, flat_length t, List.length_cons]; omega
theorem flat_even : ∀ (l : List K) (i : Nat), i < l.length → (flat l)[i * 2]? = some (.int .u64 (gt l i).1)
  | [], i, h => by simp at h
  | x :: t, 0, h => rfl
  | x :: t, i + 1, h => by
    rw [show (i + 1) * 2 = i * 2 + 1 + 1 by omega, flat, List.getElem?_cons_succ, List.getElem?_cons_succ]
    exact flat_even t i (by simpa using h)
theorem flat_odd : ∀ (l : List K) (i : Nat), i < l.length → (flat l)[i * 2 + 1]? = some (.int .i64 (gt l i).2)
  | [], i, h => by simp at h
  | x :: t, 0, h => rfl
  | x :: t, i + 1, h => by
    rw [show (i + 1) * 2 + 1 = i * 2 + 1 + 1 + 1 by omega, flat, List.getElem?_cons_succ, List.getElem?_cons_succ]
    exact flat_odd t i (by simpa using h)
theorem flat_set : ∀ (l : List K) (i : Nat) (x : K), ((flat l).set (i * 2) (.int .u64 x.1)).set (i * 2 + 1) (.int .i64 x.2) = flat (l.set i x)
  | [], i, x => by simp [flat]
  | y :: t, 0, x => rfl
  | y :: t, i + 1, x => by
    rw [show (i + 1) * 2 = i * 2 + 1 + 1 by omega, show i * 2 + 1 + 1 + 1 = (i * 2 + 1) + 1 + 1 by omega, flat, List.set_cons_succ, List.set_cons_succ, List.set_cons_succ, List.set_cons_succ, flat_set t i x, List.set_cons_succ, flat]
structure Arr (rs : List Value) (w : World) (g : Nat) (l : List K) : Prop where mk ::
  out : ∃ (cur : Array Value), w.heap[g]? = some (.cells cur 47 (0, 0)) ∧ cur.toList = flat l ++ rs
variable {rs : List Value}
section
variable {w w1 : World} {g : Nat} {l : List K}
theorem Arr.lt (h : Arr rs w g l) : g < w.heap.size := by
  obtain ⟨cur, h1, _⟩ := h.out
  exact (Array.getElem?_eq_some_iff.1 h1).1
theorem Arr.even (h : Arr rs w g l) (i : Nat) (hi : i < l.length) : w.cell? ⟨g, i * 2, none⟩ = some (.int .u64 (gt l i).1) := by
  obtain ⟨cur, h1, h2⟩ := h.out
  rw [blk_cell h1, ← Array.getElem?_toList, h2, List.getElem?_append_left (by rw [flat_length]; omega), flat_even l i hi]
theorem Arr.odd (h : Arr rs w g l) (i : Nat) (hi : i < l.length) : w.cell? ⟨g, i * 2 + 1, none⟩ = some (.int .i64 (gt l i).2) := by
  obtain ⟨cur, h1, h2⟩ := h.out
  rw [blk_cell h1, ← Array.getElem?_toList, h2, List.getElem?_append_left (by rw [flat_length]; omega), flat_odd l i hi]
theorem Arr.frozen (h : Arr rs w g l) (i : Nat) : w.frozen? ⟨g, i, none⟩ = false := by
  obtain ⟨cur, h1, _⟩ := h.out
  exact blk_frozen h1 i
theorem Arr.moved (h : Arr rs w g l) (hb : w1.heap[g]? = w.heap[g]?) : Arr rs w1 g l := by
  obtain ⟨cur, h1, h2⟩ := h.out
  exact ⟨cur, hb.trans h1, h2⟩
theorem Arr.below (h : Arr rs w g l) (hb : Below w.heap.size w w1) : Arr rs w1 g l := h.moved (hb.block g h.lt)
theorem Arr.drewN (h : Arr rs w g l) (n : Nat) : Arr rs (w.drewN n) g l := h.moved rfl
theorem Arr.set (h : Arr rs w g l) (i : Nat) (hi : i < l.length) (x : K) : Arr rs ((w.setCell ⟨g, i * 2, none⟩ (.int .u64 x.1)).setCell ⟨g, i * 2 + 1, none⟩ (.int .i64 x.2)) g (l.set i x) := by
  obtain ⟨cur, h1, h2⟩ := h.out
  refine ⟨_, blk_set (blk_set h1 _ _) _ _, ?_⟩
  rw [Array.toList_setIfInBounds, Array.toList_setIfInBounds, h2, List.set_append_left _ _ (by rw [flat_length]; omega), List.set_append_left _ _ (by rw [List.length_set, flat_length]; omega), flat_set]
end
structure Sl1 (P : Nat → World → Prop) (u : Value) (w : World) : Prop where mk ::
  out : ∃ k : Nat, u = .int .i64 k ∧ P k w
structure Sl2 (P : Nat → Nat → World → Prop) (u v : Value) (w : World) : Prop where mk ::
  out : ∃ j k : Nat, u = .int .i64 j ∧ v = .int .i64 k ∧ P j k w
theorem gb_refl (w : World) (g : Option Nat) : w.grownBy w g := ⟨rfl, rfl, rfl, Nat.le_refl _, fun _ _ _ => rfl⟩
theorem gb_trans {a b c : World} {g : Nat} (h : a.grownBy b (some g)) (k : b.grownBy c (some g)) : a.grownBy c (some g) :=
  ⟨k.os.trans h.os, k.tape.trans h.tape, k.output.trans h.output, Nat.le_trans h.size k.size, fun i hi hne => (k.block i (Nat.lt_of_lt_of_le hi h.size) hne).trans (h.block i hi hne)⟩
theorem gb_set {a b : World} {g : Nat} (h : a.grownBy b (some g)) (i : Nat) (u : Value) : a.grownBy (b.setCell ⟨g, i, none⟩ u) (some g) :=
  ⟨h.os, h.tape, h.output, by simp [World.setCell]; exact h.size, fun k hk hne => (Below.heap_setCell b ⟨g, i, none⟩ u k (fun e => hne (by rw [e]))).trans (h.block k hk hne)⟩
theorem gb_drew {a b : World} {g : Nat} (h : a.grownBy b (some g)) : a.grownBy b.drew (some g) := ⟨h.os, h.tape, h.output, h.size, h.block⟩
theorem gb_drewN {a b : World} {g : Nat} (h : a.grownBy b (some g)) (n : Nat) : a.grownBy (b.drewN n) (some g) := ⟨h.os, h.tape, h.output, h.size, h.block⟩
theorem gb_below {a b c : World} {g : Nat} (h : a.grownBy b (some g)) (k : Below b.heap.size b c) : a.grownBy c (some g) :=
  ⟨k.os.trans h.os, k.tape.trans h.tape, k.output.trans h.output, Nat.le_trans h.size k.size, fun i hi hne => (k.block i (Nat.lt_of_lt_of_le hi h.size)).trans (h.block i hi hne)⟩
theorem gb_cell {a b : World} {g : Nat} (h : a.grownBy b (some g)) {B : Nat} {v : Value} (hne : B ≠ g) (hc : a.cell? ⟨B, 0, none⟩ = some v) : b.cell? ⟨B, 0, none⟩ = some v := h.cell hc (fun e => hne (by injection e))
theorem swap_end {w wr : World} {g i j : Nat} {L : List K} {x y : K} (HA : Arr rs wr g L) (HG : w.grownBy wr (some g)) (hi : i < L.length) (hj : j < L.length) (hx : gt L i = x) (hy : gt L j = y) :
    Arr rs (((((wr.setCell ⟨g, i * 2, none⟩ (.int .u64 y.1)).setCell ⟨g, i * 2 + 1, none⟩ (.int .i64 y.2)).setCell ⟨g, j * 2, none⟩ (.int .u64 x.1)).setCell ⟨g, j * 2 + 1, none⟩ (.int .i64 x.2)).drew) g (swp L i j) ∧
    w.grownBy (((((wr.setCell ⟨g, i * 2, none⟩ (.int .u64 y.1)).setCell ⟨g, i * 2 + 1, none⟩ (.int .i64 y.2)).setCell ⟨g, j * 2, none⟩ (.int .u64 x.1)).setCell ⟨g, j * 2 + 1, none⟩ (.int .i64 x.2)).drew) (some g) := by
  subst hx
  subst hy
  exact ⟨((HA.set i hi _).set j (by simpa using hj) _).drewN 1, gb_drew (gb_set (gb_set (gb_set (gb_set HG _ _) _ _) _ _) _ _)⟩
set_option maxHeartbeats 4000000 in
set_option maxRecDepth 100000 in
theorem swapRange (g n0 c0 a b n : Nat) (cm : Value) (l : List K) (w : World) (hA : Arr rs w g l) (hn : n0 = l.length) (hl : l.length ≤ 1000000) (ha : a + n ≤ b) (hb : b + n ≤ l.length) :
    Calls Tryd.prog 98 #[.slice (some ⟨g, 0, none⟩) n0 c0, .int .i64 a, .int .i64 b, .int .i64 n, cm] w fun e w' => e = .returned (.tuple #[]) ∧ Arr rs w' g (swr l a b n) ∧ w.grownBy w' (some g) := by
  have HA := Aside0.mk hA
  have HN := Aside0.mk hn
  clear hA hn
  go_enter Tryd.func98, Tryd.ntmps98
  go_wp2
  go_loopw [10] (fun i wr => ∃ k : Nat, k ≤ n ∧ i = .int .i64 k ∧ Aside0 (Arr rs wr g (swr l a b k)) ∧ Aside0 (w.grownBy wr (some g))) (fun i _ => n - (intOf i).toNat)
  case atStart => exact ⟨0, Nat.zero_le _, rfl, HA, ⟨gb_refl _ _⟩⟩
  case round =>
    clear HA
    obtain ⟨k, hk, rfl, HA, HG⟩ := hrel
    by_cases hlt : k < n
    · have hlen := swr_length l a b k
      have HNX := Aside0.mk (show swr l a b (k + 1) = swp (swr l a b k) (a + k) (b + k) from rfl)
      generalize swr l a b k = L at HA hlen HNX
      have HL := Aside0.mk hlen
      have c1 := HA.out.even (a + k) (by omega)
      have c2 := HA.out.odd (a + k) (by omega)
      have c3 := HA.out.even (b + k) (by omega)
      have c4 := HA.out.odd (b + k) (by omega)
      have f1 := HA.out.frozen ((a + k) * 2)
      have f2 := HA.out.frozen ((a + k) * 2 + 1)
      have f3 := HA.out.frozen ((b + k) * 2)
      have f4 := HA.out.frozen ((b + k) * 2 + 1)
      have n1 : ((a : Int) + (k : Int)) < (n0 : Int) := by rw [HN.out]; omega
      have n2 : ((b : Int) + (k : Int)) < (n0 : Int) := by rw [HN.out]; omega
      have n3 : ((a : Int) + (k : Int)).toNat = a + k := by omega
      have n4 : ((b : Int) + (k : Int)).toNat = b + k := by omega
      clear hlen
      generalize hx : gt L (a + k) = x at c1 c2
      generalize hy : gt L (b + k) = y at c3 c4
      have HX := Aside0.mk hx
      have HY := Aside0.mk hy
      clear hx hy
      go_wp2
      go_region
      obtain ⟨hA2, hG2⟩ := swap_end HA.out HG.out (by rw [HL.out]; omega) (by rw [HL.out]; omega) HX.out HY.out
      have HA2 := Aside0.mk hA2
      have HG2 := Aside0.mk hG2
      clear hA2 hG2 c1 c2 c3 c4 f1 f2 f3 f4 n1 n2 n3 n4
      generalize ((((wr.setCell _ _).setCell _ _).setCell _ _).setCell _ _).drew = w2 at HA2 HG2 ⊢
      go_wp2
      refine ⟨⟨k + 1, by omega, by simp, ⟨by rw [HNX.out]; exact HA2.out⟩, HG2⟩, ?_⟩
      show n - ((k : Int) + 1).toNat < n - (k : Int).toNat
      omega
    · obtain rfl : k = n := by omega
      go_wp2
      go_end0
      exact ⟨rfl, HA.out, HG.out⟩
theorem swapRangeI (g n0 c0 a b n : Nat) (A B N : Int) (ea : A = a) (eb : B = b) (en : N = n) (cm : Value) (l : List K) (w : World) (hA : Arr rs w g l) (hn : n0 = l.length) (hl : l.length ≤ 1000000) (ha : a + n ≤ b) (hb : b + n ≤ l.length) :
    Calls Tryd.prog 98 #[.slice (some ⟨g, 0, none⟩) n0 c0, .int .i64 A, .int .i64 B, .int .i64 N, cm] w fun e w' => e = .returned (.tuple #[]) ∧ Arr rs w' g (swr l a b n) ∧ w.grownBy w' (some g) := by
  subst ea
  subst eb
  subst en
  exact swapRange g n0 c0 a b n cm l w hA hn hl ha hb
set_option maxHeartbeats 4000000 in
set_option maxRecDepth 100000 in
theorem rotate (g n0 c0 a m b : Nat) (cm : Value) (l : List K) (w : World) (hA : Arr rs w g l) (hn : n0 = l.length) (hl : l.length ≤ 1000000) (ha : a < m) (hm : m < b) (hb : b ≤ l.length) :
    Calls Tryd.prog 97 #[.slice (some ⟨g, 0, none⟩) n0 c0, .int .i64 a, .int .i64 m, .int .i64 b, cm] w fun e w' => e = .returned (.tuple #[]) ∧ (∃ l', Arr rs w' g l' ∧ Rot l l' a m b) ∧ w.grownBy w' (some g) := by
  have HA := Aside0.mk hA
  have HN := Aside0.mk hn
  clear hA hn
  go_enter Tryd.func97, Tryd.ntmps97
  go_wp2
  go_loopw [10, 11] (fun i j wr => ∃ (p q : Nat) (L : List K), 0 < p ∧ 0 < q ∧ a + p ≤ m ∧ m + q ≤ b ∧ i = .int .i64 p ∧ j = .int .i64 q ∧ Aside0 (Arr rs wr g L) ∧ Aside0 (L.length = l.length) ∧ Aside0 (w.grownBy wr (some g)) ∧ Aside0 (∀ l', Rot L l' (m - p) m (m + q) → Rot l l' a m b)) (fun i j _ => (intOf i).toNat + (intOf j).toNat)
  case atStart =>
    refine ⟨m - a, b - m, l, by omega, by omega, by omega, by omega, ?_, ?_, HA, ⟨rfl⟩, ⟨gb_refl _ _⟩, ⟨fun l' h => ?_⟩⟩
    · congr 1; omega
    · congr 1; omega
    · rwa [show m - (m - a) = a by omega, show m + (b - m) = b by omega] at h
  case round =>
    clear HA
    obtain ⟨p, q, L, hp, hq, h1, h2, rfl, rfl, HA, HL, HG, HR⟩ := hrel
    by_cases heq : p = q
    · subst heq
      go_wp2_with (go_at_call 98; (with_reducible refine (swapRangeI g n0 c0 (m - p) m p _ _ _ ?e1 ?e2 ?e3 cm L _ HA.out ?e4 ?e5 ?e6 ?e7).mono ?_); rotate_left 7; rintro e w' ⟨rfl, hA2, hG2⟩; have HA2 := Aside0.mk hA2; have HG2 := Aside0.mk (gb_trans HG.out hG2); clear hA2 hG2)
      case e1 => omega
      case e2 => rfl
      case e3 => rfl
      case e4 => rw [HN.out, HL.out]
      case e5 => rw [HL.out]; exact hl
      case e6 => omega
      case e7 => rw [HL.out]; omega
      go_end0
      exact ⟨rfl, ⟨_, HA2.out, HR.out _ (rot_eq (by omega) (by rw [HL.out]; omega))⟩, HG2.out⟩
    · by_cases hgt : q < p
      · go_wp2_with (go_at_call 98; (with_reducible refine (swapRangeI g n0 c0 (m - p) m q _ _ _ ?e1 ?e2 ?e3 cm L _ HA.out ?e4 ?e5 ?e6 ?e7).mono ?_); rotate_left 7; rintro e w' ⟨rfl, hA2, hG2⟩; have HA2 := Aside0.mk hA2; have HG2 := Aside0.mk (gb_trans HG.out hG2); clear hA2 hG2)
        case e1 => omega
        case e2 => rfl
        case e3 => rfl
        case e4 => rw [HN.out, HL.out]
        case e5 => rw [HL.out]; exact hl
        case e6 => omega
        case e7 => rw [HL.out]; omega
        refine ⟨⟨p - q, q, _, by omega, hq, by omega, h2, by congr 1; omega, rfl, HA2, ⟨by rw [swr_length, HL.out]⟩, HG2, ⟨fun l' h => HR.out l' (rot_more hq hgt (by omega) (by rw [HL.out]; omega) h)⟩⟩, ?_⟩
        show ((p : Int) - q).toNat + (q : Int).toNat < (p : Int).toNat + (q : Int).toNat
        omega
      · go_wp2_with (go_at_call 98; (with_reducible refine (swapRangeI g n0 c0 (m - p) (m + q - p) p _ _ _ ?e1 ?e2 ?e3 cm L _ HA.out ?e4 ?e5 ?e6 ?e7).mono ?_); rotate_left 7; rintro e w' ⟨rfl, hA2, hG2⟩; have HA2 := Aside0.mk hA2; have HG2 := Aside0.mk (gb_trans HG.out hG2); clear hA2 hG2)
        case e1 => omega
        case e2 => omega
        case e3 => rfl
        case e4 => rw [HN.out, HL.out]
        case e5 => rw [HL.out]; exact hl
        case e6 => omega
        case e7 => rw [HL.out]; omega
        refine ⟨⟨p, q - p, _, hp, by omega, h1, by omega, rfl, by congr 1; omega, HA2, ⟨by rw [swr_length, HL.out]⟩, HG2, ⟨fun l' h => HR.out l' (rot_less hp (by omega) (by omega) (by rw [HL.out]; omega) h)⟩⟩, ?_⟩
        show (p : Int).toNat + ((q : Int) - p).toNat < (p : Int).toNat + (q : Int).toNat
        omega
def CmpOk (cv : K → K → Int) (B : Nat) (mn : Int) : Prop := ∀ (W : World) (x y : K), W.cell? ⟨B, 0, none⟩ = some (.int .u64 mn) →
  Calls Tryd.prog 81 #[.agg #[.int .u64 x.1, .int .i64 x.2], .agg #[.int .u64 y.1, .int .i64 y.2], .pointer (some ⟨B, 0, none⟩)] W fun e w' => e = .returned (.int .i64 (cv x y)) ∧ Below W.heap.size W w'
theorem CmpOk.at_ {cv : K → K → Int} {B : Nat} {mn : Int} (h : CmpOk cv B mn) (W : World) (x y : K) (hb : W.cell? ⟨B, 0, none⟩ = some (.int .u64 mn)) :
  Calls Tryd.prog 81 #[.agg #[.int .u64 x.1, .int .i64 x.2], .agg #[.int .u64 y.1, .int .i64 y.2], .pointer (some ⟨B, 0, none⟩)] W fun e w' => e = .returned (.int .i64 (cv x y)) ∧ Below W.heap.size W w' := h W x y hb
section
variable {cv : K → K → Int} (O : Ord cv) {B : Nat} {mn : Int} (hcm : CmpOk cv B mn)
include O hcm
set_option maxHeartbeats 4000000 in
set_option maxRecDepth 100000 in
theorem insertion (g n0 c0 a b : Nat) (hBg : B ≠ g) (l : List K) (w : World) (hA : Arr rs w g l) (hB : w.cell? ⟨B, 0, none⟩ = some (.int .u64 mn)) (hn : n0 = l.length) (hl : l.length ≤ 1000000) (ha : a ≤ b) (hb : b ≤ l.length) :
    Calls Tryd.prog 94 #[.slice (some ⟨g, 0, none⟩) n0 c0, .int .i64 a, .int .i64 b, .func (.func 81) #[] #[.pointer (some ⟨B, 0, none⟩)]] w fun e w' => e = .returned (.tuple #[]) ∧ (∃ l', Arr rs w' g l' ∧ Rng l l' a b ∧ Srd cv l' a b) ∧ w.grownBy w' (some g) := by
  have HA := Aside0.mk hA
  have HN := Aside0.mk hn
  have HCM := Aside0.mk hcm
  have HBX := Aside0.mk hB
  clear hA hn hcm hB
  go_enter Tryd.func94, Tryd.ntmps94
  go_wp2
  go_loopw [8] (fun i wr => ∃ (k : Nat) (L : List K), a + 1 ≤ k ∧ (k ≤ b ∨ k = a + 1) ∧ i = .int .i64 k ∧ Aside0 (Arr rs wr g L) ∧ Aside0 (Rng l L a b) ∧ Aside0 (Srd cv L a k) ∧ Aside0 (w.grownBy wr (some g))) (fun i _ => b + 1 - (intOf i).toNat)
  case atStart => exact ⟨a + 1, l, Nat.le_refl _, Or.inr rfl, by simp, HA, ⟨Rng.refl _ _ _⟩, ⟨Srd.one O _ (Nat.le_refl _)⟩, ⟨gb_refl _ _⟩⟩
  case round =>
    clear HA
    obtain ⟨k, L, h1, h2, rfl, HA, HR, HS, HG⟩ := hrel
    have HLL := Aside0.mk HR.out.len
    by_cases hlt : k < b
    · go_wp2
      go_loopw [9] (fun j wr2 => ∃ (q : Nat) (M : List K), a ≤ q ∧ q ≤ k ∧ j = .int .i64 q ∧ Aside0 (Arr rs wr2 g M) ∧ Aside0 (Dn L M a q k b) ∧ Aside0 (∀ t, q ≤ t → t < k → cv (gt L k) (gt L t) < 0) ∧ Aside0 (w.grownBy wr2 (some g))) (fun j _ => (intOf j).toNat)
      case atStart => exact ⟨k, L, by omega, Nat.le_refl _, rfl, HA, ⟨Dn.refl _ _ _ _⟩, ⟨fun t h3 h4 => by omega⟩, HG⟩
      case round =>
        clear HA HG
        obtain ⟨q, M, h3, h4, rfl, HA, HD, HC, HG⟩ := hrel
        have HML := Aside0.mk HD.out.rng.len
        by_cases hq : a < q
        · have c1 := HA.out.even q (by rw [HML.out, HLL.out]; omega)
          have c2 := HA.out.odd q (by rw [HML.out, HLL.out]; omega)
          have c3 := HA.out.even (q - 1) (by rw [HML.out, HLL.out]; omega)
          have c4 := HA.out.odd (q - 1) (by rw [HML.out, HLL.out]; omega)
          have n1 : (q : Int) < (n0 : Int) := by rw [HN.out]; omega
          have n2 : (q : Int) - 1 < (n0 : Int) := by rw [HN.out]; omega
          have n3 : ((q : Int) - 1).toNat = q - 1 := by omega
          have n4 : q < n0 := by rw [HN.out]; omega
          have n5 : (0 : Int) ≤ (q : Int) - 1 := by omega
          have n6 : (1 : Int) ≤ (q : Int) := by omega
          have n7 : IntKind.i64.wrap ((q : Int) - 1) = (q : Int) - 1 := IntWalk.i64_in _ (by omega)
          have g1 : (a : Int) < (q : Int) := by omega
          generalize hx : gt M q = x at c1 c2
          generalize hy : gt M (q - 1) = y at c3 c4
          have HX := Aside0.mk hx
          have HY := Aside0.mk hy
          clear hx hy
          go_wp2
          go_still_tail 14, (by kernel_rfl)
          change wpList _ _ _ _ _ wr.drew
          clear c1 c2 c3 c4
          have HA1 := Aside0.mk (HA.out.moved (w1 := wr.drew) rfl)
          have HG1 := Aside0.mk (gb_drew HG.out)
          have HB1 := Aside0.mk (gb_cell HG1.out hBg HBX.out)
          clear HA HG
          generalize wr.drew = w2 at HA1 HG1 HB1 ⊢
          by_cases hcv : cv x y < 0
          · have g2 : decide (cv x y < 0) = true := decide_eq_true hcv
            have HCV := Aside0.mk hcv
            clear hcv
            go_wp2_with (go_at_call 81; (with_reducible refine (HCM.out.at_ _ x y HB1.out).mono ?_); rintro e w3 ⟨rfl, hb⟩; have HA2 := Aside0.mk (HA1.out.below hb); have HG2 := Aside0.mk (gb_below HG1.out hb); have c1 := HA2.out.even q (by rw [HML.out, HLL.out]; omega); have c2 := HA2.out.odd q (by rw [HML.out, HLL.out]; omega); have c3 := HA2.out.even (q - 1) (by rw [HML.out, HLL.out]; omega); have c4 := HA2.out.odd (q - 1) (by rw [HML.out, HLL.out]; omega); clear hb)
            rw [HX.out] at c1 c2
            rw [HY.out] at c3 c4
            have f1 := HA2.out.frozen (q * 2)
            have f2 := HA2.out.frozen (q * 2 + 1)
            have f3 := HA2.out.frozen ((q - 1) * 2)
            have f4 := HA2.out.frozen ((q - 1) * 2 + 1)
            go_region
            obtain ⟨hA3, hG3⟩ := swap_end HA2.out HG2.out (i := q) (j := q - 1) (by rw [HML.out, HLL.out]; omega) (by rw [HML.out, HLL.out]; omega) HX.out HY.out
            have HA3 := Aside0.mk hA3
            have HG3 := Aside0.mk hG3
            clear hA3 hG3 c1 c2 c3 c4 f1 f2 f3 f4 HA1 HG1 HB1
            generalize ((((w3.setCell _ _).setCell _ _).setCell _ _).setCell _ _).drew = w4 at HA3 HG3 ⊢
            go_wp2
            refine ⟨⟨q - 1, swp M q (q - 1), by omega, by omega, by congr 1; omega, HA3, ⟨HD.out.step' hq h4 hlt (by rw [HLL.out]; exact hb)⟩, ⟨fun t h5 h6 => ?_⟩, HG3⟩, ?_⟩
            · by_cases ht : t = q - 1
              · subst ht
                rw [← HD.out.at_, ← HD.out.lo (q - 1) (by omega), HX.out, HY.out]
                exact HCV.out
              · exact HC.out t (by omega) h6
            · show ((q : Int) - 1).toNat < (q : Int).toNat
              omega
          · have g2 : decide (cv x y < 0) = false := decide_eq_false hcv
            go_wp2_with (go_at_call 81; (with_reducible refine (HCM.out.at_ _ x y HB1.out).mono ?_); rintro e w3 ⟨rfl, hb⟩; have HA2 := Aside0.mk (HA1.out.below hb); have HG2 := Aside0.mk (gb_below HG1.out hb); clear hb)
            have hS := Dn.srd O HD.out h3 h4 HS.out (fun t h5 h6 => le_trans O (HS.out t (q - 1) h5 (by omega) (by omega)) (by rw [← HD.out.at_, ← HD.out.lo (q - 1) (by omega), HX.out, HY.out]; show ¬ cv x y < 0; omega)) HC.out
            refine ⟨⟨k + 1, M, by omega, Or.inl (by omega), by simp, HA2, ⟨HR.out.trans HD.out.rng⟩, ⟨hS⟩, HG2⟩, ?_⟩
            show b + 1 - ((k : Int) + 1).toNat < b + 1 - (k : Int).toNat
            omega
        · have g1 : decide ((a : Int) < (q : Int)) = false := decide_eq_false (by omega)
          go_wp2
          go_quiet (fail)
          go_wp2
          have hS := Dn.srd O HD.out h3 h4 HS.out (fun t h5 h6 => by omega) HC.out
          refine ⟨⟨k + 1, M, by omega, Or.inl (by omega), by simp, ⟨HA.out.moved rfl⟩, ⟨HR.out.trans HD.out.rng⟩, ⟨hS⟩, ⟨gb_drewN HG.out _⟩⟩, ?_⟩
          show b + 1 - ((k : Int) + 1).toNat < b + 1 - (k : Int).toNat
          omega
    · go_wp2
      go_end0
      exact ⟨rfl, ⟨L, HA.out, HR.out, HS.out.part (Nat.le_refl _) (by omega)⟩, HG.out⟩
end
end Go.Proofs.YtnkhnnojdlgfjaaDoor.Srt
