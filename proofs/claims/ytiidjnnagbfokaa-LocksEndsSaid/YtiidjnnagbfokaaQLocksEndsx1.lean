/- Go functions of the program, each as a function of Lean with the proof that the Go text comes to its answers; no condition. Written by a program of this session. -/
import Derived.Test.YtiidjnnagbfokaaQLocksEndsx0
namespace Go.Proofs.Ytiidjnnagbfokaa.QLocksEnds
open Go.RowKit Go.Proofs.YtiidjnnagbfokaaW.PrintWords Go.Proofs.YtiidjnnagbfokaaW.PrintLast Go.Proofs.YtiidjnnagbfokaaW.PrintMore
attribute [local go_sem] max2_int min2_int max_two min_two max_three min_three max_four min_four   -- for this text's walks alone
set_option linter.unusedVariables false
set_option linter.unusedSimpArgs false

/-! ### locks_Pair: function 17 -/
def locks_Pair.f (a0 : Int) (a1 : Int) : Option (Int × Int) := some (mn a0 a1, mx a0 a1)
set_option maxHeartbeats 8000000 in
set_option maxRecDepth 100000 in
theorem locks_Pair.calls (a0 : Int) (a1 : Int) (r1 : Int) (r2 : Int) (w : World) (h : locks_Pair.f a0 a1 = some (r1, r2)) :
    Calls Try.prog 17 #[.int .i64 a0, .int .i64 a1] w fun e w' => e = .returned (.tuple #[.int .i64 r1, .int .i64 r2]) ∧ Below w.heap.size w w' := by
  have HB := Aside0.mk (Below.refl w.heap.size w)
  have H : (some (mn a0 a1, mx a0 a1)) = some (r1, r2) := h
  clear h
  obtain ⟨ji3, hji3⟩ : ∃ j_ : Int, (mn a0 a1) = j_ := ⟨_, rfl⟩
  replace H : (some (ji3, mx a0 a1)) = some (r1, r2) := by first | (rw [hji3] at H; exact H) | (simp only [hji3] at H ⊢; exact H)
  have hji3_ : (if a1 < a0 then a1 else a0) = ji3 := hji3
  obtain ⟨ji4, hji4⟩ : ∃ j_ : Int, (mx a0 a1) = j_ := ⟨_, rfl⟩
  replace H : (some (ji3, ji4)) = some (r1, r2) := by first | (rw [hji4] at H; exact H) | (simp only [hji4] at H ⊢; exact H)
  have hji4_ : (if a0 < a1 then a1 else a0) = ji4 := hji4
  simp only [Option.some.injEq, Prod.mk.injEq] at H
  obtain ⟨rfl, rfl⟩ := H
  go_enter Try.func17, Try.ntmps17
  go_wp2
  go_ret2
  exact ⟨by first | rfl | (simp [errW_none, errW_some] <;> rfl) | (simp only [← hji3, ← hji4]; first | rfl | (simp [errW_none, errW_some] <;> rfl)) | (simp [*, errW_none, errW_some] <;> rfl), by repeat (first | (with_reducible first | exact HB.out | apply below_alloc | apply pw_below_drewN | apply below_drew1) | exact HB.out)⟩

/-! ### turnspitref04_Ints: function 19 -/
def turnspitref04_Ints.l0 : Nat → List Int → List Int → Int → Option (Bool)
  | 0, _, _, _ => none
  | k + 1, x0, x1, x5 => if x5 < (x0.length : Int) then (if 0 ≤ x5 then (if x5 < (x1.length : Int) then (if (rd x0 x5) = (rd x1 x5) then (turnspitref04_Ints.l0 k x0 x1 (wrap64 (x5 + 1))) else (some false)) else (none)) else (none)) else (some true)
def turnspitref04_Ints.f (k : Nat) (l0 : List Int) (l1 : List Int) : Option (Bool) := if (l0.length : Int) = (l1.length : Int) then (turnspitref04_Ints.l0 k l0 l1 0) else (some false)
theorem turnspitref04_Ints.mono_l : ∀ k, (∀ y0 y1 y2, LeO (turnspitref04_Ints.l0 k y0 y1 y2) (turnspitref04_Ints.l0 (k + 1) y0 y1 y2))
  | 0 => fun _ _ _ r h => by simp [turnspitref04_Ints.l0] at h
  | k + 1 => by
    have ih0 := turnspitref04_Ints.mono_l k
    · intro y0 y1 y2
      unfold turnspitref04_Ints.l0
      repeat' first
      | (with_reducible exact ih0 _ _ _)
      | (with_reducible exact LeO.refl _)
      | (with_reducible exact LeO.none _)
      | (with_reducible refine LeO.ite ?_ ?_)
      | (with_reducible refine LeO.bind ?_ (fun _ => ?_))
      | exact ih0 _ _ _
      | exact LeO.none _
      | refine LeO.ite ?_ ?_
      | refine LeO.bind ?_ (fun _ => ?_)
theorem turnspitref04_Ints.mono : ∀ a0 a1 k, LeO (turnspitref04_Ints.f k a0 a1) (turnspitref04_Ints.f (k + 1) a0 a1) := by
  intro a0 a1 k
  have ih0 := turnspitref04_Ints.mono_l k
  unfold turnspitref04_Ints.f
  repeat' first
      | (with_reducible exact ih0 _ _ _)
      | (with_reducible exact LeO.refl _)
      | (with_reducible exact LeO.none _)
      | (with_reducible refine LeO.ite ?_ ?_)
      | (with_reducible refine LeO.bind ?_ (fun _ => ?_))
      | exact ih0 _ _ _
      | exact LeO.none _
      | refine LeO.ite ?_ ?_
      | refine LeO.bind ?_ (fun _ => ?_)
set_option maxHeartbeats 8000000 in
set_option maxRecDepth 100000 in
theorem turnspitref04_Ints.calls (k : Nat) (A0 : Option Addr) (c0 : Nat) (l0 : List Int) (A1 : Option Addr) (c1 : Nat) (l1 : List Int) (r : Bool) (w : World) (hr0 : Kd.C (Kd.int .i64) w A0 l0.length l0) (hc0 : l0.length ≤ c0) (hr1 : Kd.C (Kd.int .i64) w A1 l1.length l1) (hc1 : l1.length ≤ c1) (h : turnspitref04_Ints.f k l0 l1 = some r) :
    Calls Try.prog 19 #[.slice A0 l0.length c0, .slice A1 l1.length c1] w fun e w' => e = .returned (.bool r) ∧ Drawn0 w w' := by
  have HR0 := Aside0.mk hr0
  have HC0 := Aside0.mk hc0
  clear hr0 hc0
  have HR1 := Aside0.mk hr1
  have HC1 := Aside0.mk hc1
  clear hr1 hc1
  have H : (if (l0.length : Int) = (l1.length : Int) then (turnspitref04_Ints.l0 k l0 l1 0) else (some false)) = some r := h
  clear h
  by_cases c3 : (l0.length : Int) = (l1.length : Int)
  · rw [if_pos c3] at H
    have c3b0 : ((l0.length : Int) == (l1.length : Int)) = true := beq_iff_eq.mpr c3
    have c3b1 : ((l0.length : Int) != (l1.length : Int)) = false := bne_eq_false_iff_eq.mpr c3
    have c3b2 : (l0.length == l1.length) = true := by first | simpa using c3 | (simp at c3 ⊢; omega)
    clear c3
    have H' := Aside0.mk H
    clear H
    go_enter Try.func19, Try.ntmps19
    go_wp2
    repeat (go_quiet (fail); try go_wp2)
    go_loopg [5] k (fun kq v5 w' => ∃ (x5_1 : Int), v5 = .int .i64 x5_1 ∧ Aside0 (turnspitref04_Ints.l0 kq l0 l1 x5_1 = some r) ∧ Aside0 (kq ≤ k) ∧ Drawn0 w w')
    case atStart => exact ⟨(0), (by first | rfl | (simp; done) | (simp [*]; done)), H', ⟨Nat.le_refl _⟩, by repeat (first | exact Drawn0.refl _ | apply Drawn0.step)⟩
    case round =>
      clear H'
      try clear c1
      try clear p2
      try clear c3
      try clear c3b0
      try clear c3b1
      try clear c3b2
      obtain ⟨x5_1, rfl, HA, HK1, ⟨m1, rfl⟩⟩ := hrel
      cases gk with
      | zero => exact absurd HA.out (by simp [turnspitref04_Ints.l0])
      | succ k1 =>
        have H := HA.out
        clear HA
        simp only [turnspitref04_Ints.l0] at H
        by_cases c4 : x5_1 < (l0.length : Int)
        · rw [if_pos c4] at H
          have c4b0 : decide (x5_1 < (l0.length : Int)) = true := decide_eq_true c4
          clear c4
          by_cases c5 : 0 ≤ x5_1
          · rw [if_pos c5] at H
            have c5b0 : decide (0 ≤ x5_1) = true := decide_eq_true c5
            clear c5
            by_cases c6 : x5_1 < (l1.length : Int)
            · rw [if_pos c6] at H
              have c6b0 : decide (x5_1 < (l1.length : Int)) = true := decide_eq_true c6
              clear c6
              by_cases c7 : (rd l0 x5_1) = (rd l1 x5_1)
              · rw [if_pos c7] at H
                have c7b0 : ((rd l0 x5_1) == (rd l1 x5_1)) = true := beq_iff_eq.mpr c7
                have c7b1 : ((rd l0 x5_1) != (rd l1 x5_1)) = false := bne_eq_false_iff_eq.mpr c7
                clear c7
                have H' := Aside0.mk H
                clear H
                have p101 : 0 ≤ (x5_1 : Int) := of_decide_eq_true (by first | (with_reducible assumption) | assumption)
                have q101 : x5_1 < (l0.length : Int) := of_decide_eq_true (by first | (with_reducible assumption) | assumption)
                obtain ⟨ad101, e101, hx101_0⟩ := Kd.at_int HR0.out x5_1 p101 q101
                cases e101
                replace p101 := eq_true p101
                replace q101 := eq_true q101
                have p102 : 0 ≤ (x5_1 : Int) := of_decide_eq_true (by first | (with_reducible assumption) | assumption)
                have q102 : x5_1 < (l1.length : Int) := of_decide_eq_true (by first | (with_reducible assumption) | assumption)
                obtain ⟨ad102, e102, hx102_0⟩ := Kd.at_int HR1.out x5_1 p102 q102
                cases e102
                replace p102 := eq_true p102
                replace q102 := eq_true q102
                go_wp2
                repeat (go_quiet (fail); try go_wp2)
                go_roundg k1
                case measure => have := HK1.out; omega
                case rel => exact ⟨(wrap64 (x5_1 + 1)), (by first | rfl | (simp; done) | (simp [*]; done)), H', ⟨by have := HK1.out; omega⟩, by repeat (first | exact Drawn0.refl _ | apply Drawn0.step)⟩
              · rw [if_neg c7] at H
                have c7b0 : ((rd l0 x5_1) == (rd l1 x5_1)) = false := beq_eq_false_iff_ne.mpr c7
                have c7b1 : ((rd l0 x5_1) != (rd l1 x5_1)) = true := bne_iff_ne.mpr c7
                obtain rfl := Option.some.inj H
                have p101 : 0 ≤ (x5_1 : Int) := of_decide_eq_true (by first | (with_reducible assumption) | assumption)
                have q101 : x5_1 < (l0.length : Int) := of_decide_eq_true (by first | (with_reducible assumption) | assumption)
                obtain ⟨ad101, e101, hx101_0⟩ := Kd.at_int HR0.out x5_1 p101 q101
                cases e101
                replace p101 := eq_true p101
                replace q101 := eq_true q101
                have p102 : 0 ≤ (x5_1 : Int) := of_decide_eq_true (by first | (with_reducible assumption) | assumption)
                have q102 : x5_1 < (l1.length : Int) := of_decide_eq_true (by first | (with_reducible assumption) | assumption)
                obtain ⟨ad102, e102, hx102_0⟩ := Kd.at_int HR1.out x5_1 p102 q102
                cases e102
                replace p102 := eq_true p102
                replace q102 := eq_true q102
                go_wp2
                repeat (go_quiet (fail); try go_wp2)
                go_ret
                exact ⟨by first | rfl | (simp; done) | (simp [*]; done), by repeat (first | exact Drawn0.refl _ | apply Drawn0.step)⟩
            · rw [if_neg c6] at H
              exact absurd H (by simp)
          · rw [if_neg c5] at H
            exact absurd H (by simp)
        · rw [if_neg c4] at H
          have c4b0 : decide (x5_1 < (l0.length : Int)) = false := decide_eq_false c4
          clear c4
          obtain rfl := Option.some.inj H
          go_wp2
          repeat (go_quiet (fail); try go_wp2)
          go_ret
          exact ⟨by first | rfl | (simp; done) | (simp [*]; done), by repeat (first | exact Drawn0.refl _ | apply Drawn0.step)⟩
  · rw [if_neg c3] at H
    have c3b0 : ((l0.length : Int) == (l1.length : Int)) = false := beq_eq_false_iff_ne.mpr c3
    have c3b1 : ((l0.length : Int) != (l1.length : Int)) = true := bne_iff_ne.mpr c3
    have c3b2 : (l0.length == l1.length) = false := by first | simpa using c3 | (simp at c3 ⊢; omega)
    obtain rfl := Option.some.inj H
    go_enter Try.func19, Try.ntmps19
    go_wp2
    repeat (go_quiet (fail); try go_wp2)
    go_ret
    exact ⟨by first | rfl | (simp; done) | (simp [*]; done), by repeat (first | exact Drawn0.refl _ | apply Drawn0.step)⟩

/-! ### slices_Index_int_int: function 40 -/
def slices_Index_int_int.l0 : Nat → List Int → Int → Int → Int → Option (Int)
  | 0, _, _, _, _ => none
  | k + 1, x0, x1, x7, x8 => if x8 < x7 then (if 0 ≤ x8 then (if x8 < (x0.length : Int) then (if x1 = (rd x0 x8) then (some x8) else (slices_Index_int_int.l0 k x0 x1 x7 (wrap64 (x8 + 1)))) else (none)) else (none)) else (some (-1))
def slices_Index_int_int.f (k : Nat) (l0 : List Int) (a1 : Int) : Option (Int) := slices_Index_int_int.l0 k l0 a1 (l0.length : Int) 0
theorem slices_Index_int_int.mono_l : ∀ k, (∀ y0 y1 y2 y3, LeO (slices_Index_int_int.l0 k y0 y1 y2 y3) (slices_Index_int_int.l0 (k + 1) y0 y1 y2 y3))
  | 0 => fun _ _ _ _ r h => by simp [slices_Index_int_int.l0] at h
  | k + 1 => by
    have ih0 := slices_Index_int_int.mono_l k
    · intro y0 y1 y2 y3
      unfold slices_Index_int_int.l0
      repeat' first
      | (with_reducible exact ih0 _ _ _ _)
      | (with_reducible exact LeO.refl _)
      | (with_reducible exact LeO.none _)
      | (with_reducible refine LeO.ite ?_ ?_)
      | (with_reducible refine LeO.bind ?_ (fun _ => ?_))
      | exact ih0 _ _ _ _
      | exact LeO.none _
      | refine LeO.ite ?_ ?_
      | refine LeO.bind ?_ (fun _ => ?_)
theorem slices_Index_int_int.mono : ∀ a0 a1 k, LeO (slices_Index_int_int.f k a0 a1) (slices_Index_int_int.f (k + 1) a0 a1) := by
  intro a0 a1 k
  have ih0 := slices_Index_int_int.mono_l k
  unfold slices_Index_int_int.f
  repeat' first
      | (with_reducible exact ih0 _ _ _ _)
      | (with_reducible exact LeO.refl _)
      | (with_reducible exact LeO.none _)
      | (with_reducible refine LeO.ite ?_ ?_)
      | (with_reducible refine LeO.bind ?_ (fun _ => ?_))
      | exact ih0 _ _ _ _
      | exact LeO.none _
      | refine LeO.ite ?_ ?_
      | refine LeO.bind ?_ (fun _ => ?_)
set_option maxHeartbeats 8000000 in
set_option maxRecDepth 100000 in
theorem slices_Index_int_int.calls (k : Nat) (A0 : Option Addr) (c0 : Nat) (l0 : List Int) (a1 : Int) (r : Int) (w : World) (hr0 : Kd.C (Kd.int .i64) w A0 l0.length l0) (hc0 : l0.length ≤ c0) (h : slices_Index_int_int.f k l0 a1 = some r) :
    Calls Try.prog 40 #[.slice A0 l0.length c0, .int .i64 a1] w fun e w' => e = .returned (.int .i64 r) ∧ Drawn0 w w' := by
  have HR0 := Aside0.mk hr0
  have HC0 := Aside0.mk hc0
  clear hr0 hc0
  have H : (slices_Index_int_int.l0 k l0 a1 (l0.length : Int) 0) = some r := h
  clear h
  have H' := Aside0.mk H
  clear H
  go_enter Try.func40, Try.ntmps40
  go_wp2
  go_loopg [8] k (fun kq v8 w' => ∃ (x8_1 : Int), v8 = .int .i64 x8_1 ∧ Aside0 (slices_Index_int_int.l0 kq l0 a1 (l0.length : Int) x8_1 = some r) ∧ Aside0 (kq ≤ k) ∧ Drawn0 w w')
  case atStart => exact ⟨(0), (by first | rfl | (simp; done) | (simp [*]; done)), H', ⟨Nat.le_refl _⟩, by repeat (first | exact Drawn0.refl _ | apply Drawn0.step)⟩
  case round =>
    clear H'
    try clear p2
    obtain ⟨x8_1, rfl, HA, HK1, ⟨m1, rfl⟩⟩ := hrel
    cases gk with
    | zero => exact absurd HA.out (by simp [slices_Index_int_int.l0])
    | succ k1 =>
      have H := HA.out
      clear HA
      simp only [slices_Index_int_int.l0] at H
      by_cases c3 : x8_1 < (l0.length : Int)
      · rw [if_pos c3] at H
        have c3b0 : decide (x8_1 < (l0.length : Int)) = true := decide_eq_true c3
        clear c3
        by_cases c4 : 0 ≤ x8_1
        · rw [if_pos c4] at H
          have c4b0 : decide (0 ≤ x8_1) = true := decide_eq_true c4
          clear c4
          by_cases c5 : x8_1 < (l0.length : Int)
          · rw [if_pos c5] at H
            have c5b0 : decide (x8_1 < (l0.length : Int)) = true := decide_eq_true c5
            clear c5
            by_cases c6 : a1 = (rd l0 x8_1)
            · rw [if_pos c6] at H
              have c6b0 : (a1 == (rd l0 x8_1)) = true := beq_iff_eq.mpr c6
              have c6b1 : (a1 != (rd l0 x8_1)) = false := bne_eq_false_iff_eq.mpr c6
              clear c6
              obtain rfl := Option.some.inj H
              have p103 : 0 ≤ (x8_1 : Int) := of_decide_eq_true (by first | (with_reducible assumption) | assumption)
              have q103 : x8_1 < (l0.length : Int) := of_decide_eq_true (by first | (with_reducible assumption) | assumption)
              obtain ⟨ad103, e103, hx103_0⟩ := Kd.at_int HR0.out x8_1 p103 q103
              cases e103
              replace p103 := eq_true p103
              replace q103 := eq_true q103
              go_wp2
              go_ret
              exact ⟨by first | rfl | (simp; done) | (simp [*]; done), by repeat (first | exact Drawn0.refl _ | apply Drawn0.step)⟩
            · rw [if_neg c6] at H
              have c6b0 : (a1 == (rd l0 x8_1)) = false := beq_eq_false_iff_ne.mpr c6
              have c6b1 : (a1 != (rd l0 x8_1)) = true := bne_iff_ne.mpr c6
              have H' := Aside0.mk H
              clear H
              have p103 : 0 ≤ (x8_1 : Int) := of_decide_eq_true (by first | (with_reducible assumption) | assumption)
              have q103 : x8_1 < (l0.length : Int) := of_decide_eq_true (by first | (with_reducible assumption) | assumption)
              obtain ⟨ad103, e103, hx103_0⟩ := Kd.at_int HR0.out x8_1 p103 q103
              cases e103
              replace p103 := eq_true p103
              replace q103 := eq_true q103
              go_wp2
              go_roundg k1
              case measure => have := HK1.out; omega
              case rel => exact ⟨(wrap64 (x8_1 + 1)), (by first | rfl | (simp; done) | (simp [*]; done)), H', ⟨by have := HK1.out; omega⟩, by repeat (first | exact Drawn0.refl _ | apply Drawn0.step)⟩
          · rw [if_neg c5] at H
            exact absurd H (by simp)
        · rw [if_neg c4] at H
          exact absurd H (by simp)
      · rw [if_neg c3] at H
        have c3b0 : decide (x8_1 < (l0.length : Int)) = false := decide_eq_false c3
        clear c3
        obtain rfl := Option.some.inj H
        go_wp2
        go_ret
        exact ⟨by first | rfl | (simp; done) | (simp [*]; done), by repeat (first | exact Drawn0.refl _ | apply Drawn0.step)⟩

/-! ### slices_Contains_int_int: function 32 -/
def slices_Contains_int_int.f (k : Nat) (l0 : List Int) (a1 : Int) : Option (Bool) := (slices_Index_int_int.f k l0 a1).bind fun t104 => (some (decide (t104 ≥ 0)))
theorem slices_Contains_int_int.mono : ∀ a0 a1 k, LeO (slices_Contains_int_int.f k a0 a1) (slices_Contains_int_int.f (k + 1) a0 a1) := by
  intro a0 a1 k
  unfold slices_Contains_int_int.f
  repeat' first
      | (with_reducible exact slices_Index_int_int.mono _ _ _)
      | (with_reducible exact LeO.refl _)
      | (with_reducible exact LeO.none _)
      | (with_reducible refine LeO.ite ?_ ?_)
      | (with_reducible refine LeO.bind ?_ (fun _ => ?_))
      | exact slices_Index_int_int.mono _ _ _
      | exact LeO.none _
      | refine LeO.ite ?_ ?_
      | refine LeO.bind ?_ (fun _ => ?_)
set_option maxHeartbeats 8000000 in
set_option maxRecDepth 100000 in
theorem slices_Contains_int_int.calls (k : Nat) (A0 : Option Addr) (c0 : Nat) (l0 : List Int) (a1 : Int) (r : Bool) (w : World) (hr0 : Kd.C (Kd.int .i64) w A0 l0.length l0) (hc0 : l0.length ≤ c0) (h : slices_Contains_int_int.f k l0 a1 = some r) :
    Calls Try.prog 32 #[.slice A0 l0.length c0, .int .i64 a1] w fun e w' => e = .returned (.bool r) ∧ Drawn0 w w' := by
  have HR0 := Aside0.mk hr0
  have HC0 := Aside0.mk hc0
  clear hr0 hc0
  have H : ((slices_Index_int_int.f k l0 a1).bind fun t104 => (some (decide (t104 ≥ 0)))) = some r := h
  clear h
  replace H := Option.bind_eq_some_iff.mp H
  obtain ⟨t104, A30, H⟩ := H
  replace H : (some (decide (t104 ≥ 0))) = some r := H
  have A3 := Aside0.mk A30
  clear A30
  obtain rfl := Option.some.inj H
  go_enter Try.func32, Try.ntmps32
  go_wp2_with (first | ((with_reducible refine gate_callee (f := 40) rfl ?_); refine goesL_ (some 7) rfl rfl Try.func40 (by kernel_rfl) rfl #[.slice A0 l0.length c0, .int .i64 a1] rfl (by (try simp only [List.map_toArray, List.map_cons, List.map_nil]); first | done | rfl | (simp only [List.length_drop, List.length_take]; rfl)) ?_; (with_reducible refine (slices_Index_int_int.calls k _ _ l0 a1 t104 _ ?side1 ?side2 A3.out).mono ?_); (case side1 => repeat (first | exact HR0.out | (with_reducible refine Kd.C_alloc ?_ _) | (with_reducible refine Kd.C_drewN ?_ _) | (with_reducible refine Kd.C_drew ?_))); (case side2 => exact HC0.out); rintro e w' ⟨rfl, ⟨nd, rfl⟩⟩; refine ⟨_, rfl, ?_⟩))
  go_ret
  exact ⟨by first | rfl | (simp; done) | (simp [*]; done), by repeat (first | exact Drawn0.refl _ | apply Drawn0.step)⟩

/-! ### locks_Stuck: function 21 -/
open Go.Proofs.Ytiidjnnagbfokaa.Lk Go.Proofs.Ytiidjnnagbfokaa.IM
def pr52 (x : S52) : List Int × Int := (x.f0, x.f1)
def holdsTotal (l : List S52) : Nat := (l.map fun x => x.f0.length).sum
def inAll (l : List S52) : Bool := l.all fun x => decide (-9223372036854775808 ≤ x.f1 ∧ x.f1 ≤ 9223372036854775807) && x.f0.all fun y => decide (-9223372036854775808 ≤ y ∧ y ≤ 9223372036854775807)
theorem inAll_get {l : List S52} (h : inAll l = true) (k : Nat) (hk : k < l.length) : inI (rd_T52 l (k : Int)).f1 ∧ ∀ y ∈ (rd_T52 l (k : Int)).f0, inI y := by
  have hm : rd_T52 l (k : Int) ∈ l := by
    rw [rd_T52, Int.toNat_natCast, List.getD_eq_getElem?_getD, List.getElem?_eq_getElem hk]
    exact List.getElem_mem hk
  have h1 := List.all_eq_true.1 h _ hm
  simp only [Bool.and_eq_true, decide_eq_true_eq, List.all_eq_true] at h1
  exact ⟨h1.1, h1.2⟩
theorem el_cell2_ {w : World} {ad : Addr} {i : Nat} {l : List Int} {c : List Value} {x : Int} (hK : (Kd.int .i64).K w (l.getD ((i : Int)).toNat 0) c) (hc : ∀ j u, c[j]? = some u → w.cell? (ad.add (((i : Int)).toNat * (Kd.int .i64).sz + j)) = some u) (hx : l.getD i 0 = x) : w.cell? (ad.add i) = some (.int .i64 x) := by
  rw [Int.toNat_natCast] at hK hc
  rw [hx] at hK
  have hq : w.cell? (ad.add (i * 1 + 0)) = some (.int .i64 x) := hc 0 (.int .i64 x) (by rw [show c = [.int .i64 x] from hK]; rfl)
  rwa [Nat.mul_one, Nat.add_zero] at hq
theorem cell_kept2_ {w w1 : World} {p : Addr} {v : Value} (h : Below w.heap.size w w1) (hc : w.cell? p = some v) : w1.cell? p = some v := by
  have hp : p.block < w.heap.size := by
    apply Classical.byContradiction
    intro hn
    have : w.heap[p.block]? = none := Array.getElem?_eq_none (by omega)
    simp [World.cell?, this] at hc
  rw [h.cell hp]
  exact hc
theorem index_l0 (l : List Int) (a : Int) (h : l.length ≤ 1000000) : ∀ (d i : Nat), d + i = l.length → ∃ r, slices_Index_int_int.l0 (d + 1) l a (l.length : Int) i = some r ∧ (r ≥ 0 ↔ a ∈ l.drop i)
  | 0, i, hi => by
    refine ⟨-1, by rw [slices_Index_int_int.l0, if_neg (by omega)], ?_⟩
    rw [List.drop_eq_nil_of_le (by omega)]
    simp
  | d + 1, i, hi => by
    have hw : wrap64 ((i : Int) + 1) = ((i + 1 : Nat) : Int) := by unfold wrap64; omega
    have hg : rd l (i : Int) = l[i] := by rw [rd, Int.toNat_natCast, List.getD_eq_getElem?_getD, List.getElem?_eq_getElem (by omega)]; rfl
    rw [slices_Index_int_int.l0, if_pos (by omega), if_pos (by omega), if_pos (by omega), hg, hw, List.drop_eq_getElem_cons (by omega)]
    by_cases e : a = l[i]
    · rw [if_pos e]
      exact ⟨_, rfl, fun _ => List.mem_cons.2 (Or.inl e), fun _ => by omega⟩
    · rw [if_neg e]
      obtain ⟨r, h1, h2⟩ := index_l0 l a h d (i + 1) (by omega)
      exact ⟨r, h1, by rw [h2, List.mem_cons]; simp [e]⟩
theorem contains_f (l : List Int) (a : Int) (h : l.length ≤ 1000000) : slices_Contains_int_int.f (l.length + 1) l a = some (decide (a ∈ l)) := by
  obtain ⟨r, h1, h2⟩ := index_l0 l a h l.length 0 (by omega)
  rw [Int.natCast_zero] at h1
  rw [slices_Contains_int_int.f, slices_Index_int_int.f, h1, Option.bind_some]
  rw [List.drop_zero] at h2
  exact congrArg some (decide_eq_decide.2 h2)
theorem range_drop (n k : Nat) (h : k < n) : (List.range n).drop k = k :: (List.range n).drop (k + 1) := by
  rw [List.drop_eq_getElem_cons (by simpa using h), List.getElem_range]
theorem drop_L (l : List S52) (k : Nat) (hk : k < l.length) : (l.map pr52).drop k = ((rd_T52 l (k : Int)).f0, (rd_T52 l (k : Int)).f1) :: (l.map pr52).drop (k + 1) := by
  rw [List.drop_eq_getElem_cons (by rw [List.length_map]; exact hk), List.getElem_map, rd_T52, Int.toNat_natCast, List.getD_eq_getElem?_getD, List.getElem?_eq_getElem hk]; rfl
theorem drop_T (l : List S52) (k : Nat) (hk : k < l.length) : holdsTotal (l.drop k) = (rd_T52 l (k : Int)).f0.length + holdsTotal (l.drop (k + 1)) := by
  unfold holdsTotal
  rw [List.drop_eq_getElem_cons hk, List.map_cons, List.sum_cons, rd_T52, Int.toNat_natCast, List.getD_eq_getElem?_getD, List.getElem?_eq_getElem hk]; rfl
theorem holds_cons (k : Int) (hs : List Int) (j : Nat) (hj : j < hs.length) (f : IM) : holdsP k (hs.drop j) f = if (f (hs.getD j 0)).isSome = true then none else if hs.getD j 0 < 0 then none else holdsP k (hs.drop (j + 1)) (IM.put f (hs.getD j 0) k) := by
  rw [List.drop_eq_getElem_cons hj, holdsP, List.getD_eq_getElem?_getD, List.getElem?_eq_getElem hj]; rfl
def locks_Stuck.f (l0 : List S52) : Option (List Int × Int) := if inAll l0 = true ∧ holdsTotal l0 ≤ 1000000 then some ((stuckP (l0.map pr52)).1, (stuckP (l0.map pr52)).2) else none
set_option maxHeartbeats 4000000 in
set_option maxRecDepth 100000 in
theorem locks_Stuck.calls (A0 : Option Addr) (c0 : Nat) (l0 : List S52) (r1 : List Int) (r2 : Int) (w : World) (hr0 : Kd.C k52 w A0 l0.length l0) (hc0 : l0.length ≤ c0) (h : locks_Stuck.f l0 = some (r1, r2)) :
    Calls Try.prog 21 #[.slice A0 l0.length c0] w fun e w' => ∃ v0_ : Value, e = .returned (.tuple #[v0_, .int .i64 r2]) ∧ Kd.R (Kd.int .i64) 3 w' w.heap.size (fun _ => True) v0_ r1 ∧ Below w.heap.size w w' := by
  unfold locks_Stuck.f at h
  by_cases c : inAll l0 = true ∧ holdsTotal l0 ≤ 1000000
  case neg => rw [if_neg c] at h; cases h
  rw [if_pos c] at h
  have h := Option.some.inj h
  obtain ⟨ci, ct⟩ := c
  have HIN := Aside0.mk ci
  have HR0 := Aside0.mk hr0
  have HT := Aside0.mk ct
  clear ci hr0 ct
  by_cases c64 : l0.length > 64
  · have e : stuckP (l0.map pr52) = ([], 2) := by unfold stuckP; rw [if_pos (by rw [List.length_map]; exact c64)]
    rw [e] at h
    simp only [Prod.mk.injEq] at h
    obtain ⟨rfl, rfl⟩ := h
    have d1 : decide ((64 : Int) < (l0.length : Int)) = true := decide_eq_true (by omega)
    clear e
    go_enter Try.func21, Try.ntmps21
    go_wp2
    go_ret2
    exact ⟨_, rfl, Kd.R_nil _ _ _ _ _, Below.refl _ _⟩
  have d1 : decide ((64 : Int) < (l0.length : Int)) = false := decide_eq_false (by omega)
  have hmk : ∀ W : World, (Instr.makeMap 58 none).run Try.prog W = .ok (.map (some W.heap.size)) (W.alloc (.map #[] 0)) := fun W => by simp [Instr.makeMap, run_underlying Try.underlying58, Result.andThen]
  go_enter Try.func21, Try.ntmps21
  go_wp2
  have HM0 := Aside0.mk (MapI.made w)
  have HB0 := Aside0.mk (below_alloc (Below.refl w.heap.size w) (.map #[] 0))
  have HRR := Aside0.mk h
  have HERR : Aside0 (byP 0 (l0.map pr52) (fun _ => none) = none → r1 = [] ∧ r2 = 1) := ⟨fun he => by
    have e : stuckP (l0.map pr52) = ([], 1) := by unfold stuckP; rw [if_neg (by rw [List.length_map]; exact c64), he]
    rw [e] at h
    simp only [Prod.mk.injEq] at h
    exact ⟨h.1.symm, h.2.symm⟩⟩
  clear h
  go_loopw [31] (fun i wr => ∃ (k n : Nat) (f : IM), k ≤ l0.length ∧ i = .int .i64 k ∧ Aside0 (MapI wr w.heap.size n f) ∧ Aside0 (Below w.heap.size w wr) ∧ Aside0 (byP (k : Int) ((l0.map pr52).drop k) f = byP 0 (l0.map pr52) (fun _ => none)) ∧ Aside0 (n + holdsTotal (l0.drop k) ≤ 1000000)) (fun i _ => l0.length - (intOf i).toNat)
  case atStart => exact ⟨0, 0, _, Nat.zero_le _, rfl, HM0, HB0, ⟨rfl⟩, ⟨by have := HT.out; simpa using this⟩⟩
  case round =>
    clear HM0 HB0
    obtain ⟨k, n, f, hk, rfl, HM, HB, HBY, HN⟩ := hrel
    by_cases hlt : k < l0.length
    · have q1 : ((k : Int) < (l0.length : Int)) = True := eq_true (by omega)
      obtain ⟨ad, Ah, ch, hA, hc0', hc1', hlc, hC⟩ := at_T52 HR0.out (k : Int) (by omega) (by omega)
      subst hA
      replace hc0' := cell_kept2_ HB.out hc0'
      replace hc1' := cell_kept2_ HB.out hc1'
      rw [Int.toNat_natCast] at hc0' hc1'
      have HC := Aside0.mk hC
      have HLC := Aside0.mk hlc
      clear hC hlc
      have hin := inAll_get HIN.out k hlt
      have hdl := drop_L l0 k hlt
      have hdt := drop_T l0 k hlt
      have HBY' := HBY.out
      rw [hdl, byP] at HBY'
      have HN' := HN.out
      rw [hdt] at HN'
      clear hdl hdt HBY HN
      generalize (rd_T52 l0 (k : Int)).f0 = hs at hc0' HC HLC hin HBY' HN'
      generalize (rd_T52 l0 (k : Int)).f1 = wt at hc1' hin HBY'
      have HBY := Aside0.mk HBY'
      have HN := Aside0.mk HN'
      have HINS := Aside0.mk hin
      clear HBY' HN' hin
      go_wp2
      have HM1 := Aside0.mk (HM.out.moved (w' := wr.alloc (.cells #[.slice Ah hs.length ch, .int .i64 wt] 52)) (Below.heap_alloc wr _ _ HM.out.lt))
      have HB1 := Aside0.mk (below_alloc HB.out (.cells #[.slice Ah hs.length ch, .int .i64 wt] 52))
      have HB6 := Aside0.mk (blk_new wr (.cells #[.slice Ah hs.length ch, .int .i64 wt] 52))
      have HNE := Aside0.mk (show wr.heap.size ≠ w.heap.size from Nat.ne_of_gt HM.out.lt)
      have HLE := Aside0.mk HB.out.size
      clear HM HB hc0' hc1'
      generalize hw1 : wr.alloc (.cells #[.slice Ah hs.length ch, .int .i64 wt] 52) = w1 at HM1 HB1 HB6 ⊢
      generalize hb6 : wr.heap.size = b6 at HB6 HNE HLE ⊢
      clear hw1 hb6
      go_loopw [39] (fun i wr => ∃ (j n2 : Nat) (f2 : IM), j ≤ hs.length ∧ i = .int .i64 j ∧ Aside0 (MapI wr w.heap.size n2 f2) ∧ Aside0 (Below w.heap.size w wr) ∧ Aside0 (wr.heap[b6]? = some (.cells #[.slice Ah hs.length ch, .int .i64 wt] 52 (0, 0))) ∧ Aside0 (holdsP (k : Int) (hs.drop j) f2 = holdsP (k : Int) hs f) ∧ Aside0 (n2 + (hs.length - j) ≤ n + hs.length)) (fun i _ => hs.length - (intOf i).toNat)
      case atStart => exact ⟨0, n, f, Nat.zero_le _, rfl, HM1, HB1, HB6, ⟨rfl⟩, ⟨by omega⟩⟩
      case round =>
        clear HM1 HB1 HB6
        obtain ⟨j, n2, f2, hj, rfl, HM, HB, HB6, HH, HN2⟩ := hrel
        by_cases hlj : j < hs.length
        · have q2 : ((j : Int) < (hs.length : Int)) = True := eq_true (by omega)
          obtain ⟨ad2, cc, hA2, _, hK2, hcc2⟩ := Kd.C_get (Kd.C_below HC.out HB.out) 0 (j : Int) (by omega) (by omega)
          subst hA2
          have hxin : inI (hs.getD j 0) := HINS.out.2 _ (by rw [List.getD_eq_getElem?_getD, List.getElem?_eq_getElem hlj]; exact List.getElem_mem hlj)
          have hH := HH.out
          rw [holds_cons (k : Int) hs j hlj] at hH
          generalize hx : hs.getD j 0 = x at hxin hH
          have hcl := el_cell2_ hK2 hcc2 hx
          have HX := Aside0.mk hxin
          clear hx hK2 hcc2 hxin HH
          by_cases cs : (f2 x).isSome = true
          · rw [if_pos cs] at hH
            rw [← hH] at HBY
            have HE := Aside0.mk HBY.out.symm
            clear hH HBY
            obtain ⟨rfl, rfl⟩ := HERR.out (HE.out.trans rfl)
            go_wp2_with (first | (at_lookup; refine IM.look HM.out rfl _ _ rfl rfl x HX.out rfl ?_; intro _))
            go_ret2
            exact ⟨_, rfl, Kd.R_nil _ _ _ _ _, HB.out⟩
          have cs' : (f2 x).isSome = false := by simpa using cs
          rw [if_neg cs] at hH
          by_cases cn : x < 0
          · rw [if_pos cn] at hH
            rw [← hH] at HBY
            have HE := Aside0.mk HBY.out.symm
            clear hH HBY cs
            obtain ⟨rfl, rfl⟩ := HERR.out (HE.out.trans rfl)
            go_wp2_with (first | (at_lookup; refine IM.look HM.out rfl _ _ rfl rfl x HX.out rfl ?_; intro _))
            go_ret2
            exact ⟨_, rfl, Kd.R_nil _ _ _ _ _, HB.out⟩
          rw [if_neg cn] at hH
          have HHN := Aside0.mk hH
          have hn2 := HN2.out
          have hn0 := HN.out
          have hmax : n2 < maxLen := by unfold maxLen; omega
          have HMAX := Aside0.mk hmax
          clear hH cs hmax
          go_wp2_with (first | (at_lookup; refine IM.look HM.out rfl _ _ rfl rfl x HX.out rfl ?_; intro _) | (at_mapUpdate; refine IM.store HM.out rfl _ _ _ rfl rfl HMAX.out x (k : Int) HX.out ⟨by omega, by omega⟩ rfl rfl ?_; intro w4 hM4 hG4; have HM4 := Aside0.mk hM4; have HG4 := Aside0.mk hG4; clear hM4 hG4))
          refine ⟨⟨j + 1, n2 + 1, _, by omega, by simp, HM4, ⟨HB.out.grown HG4.out HB.out.size (fun k hk => by injection hk with hk; omega)⟩, ⟨blk_grown HB6.out HG4.out (fun e => HNE.out (by injection e))⟩, ⟨HHN.out⟩, ⟨by omega⟩⟩, ?_⟩
          show hs.length - ((j : Int) + 1).toNat < hs.length - (j : Int).toNat
          omega
        · have q2 : ((j : Int) < (hs.length : Int)) = False := eq_false (by omega)
          obtain rfl : j = hs.length := by omega
          have hH := HH.out
          rw [List.drop_length, holdsP] at hH
          rw [← hH, Option.bind_some] at HBY
          clear hH HH
          have hc60 := blk_cell HB6.out 0
          have hc61 := blk_cell HB6.out 1
          have hn0 := HN.out
          have hn2 := HN2.out
          have HCO := Aside0.mk (contains_f hs wt (by omega))
          by_cases cw : wt ∈ hs
          · rw [if_pos cw] at HBY
            rw [decide_eq_true cw] at HCO
            obtain ⟨rfl, rfl⟩ := HERR.out HBY.out.symm
            clear HBY cw
            go_wp2_with (go_at_call 32; (with_reducible refine (slices_Contains_int_int.calls _ Ah ch hs wt true _ (Kd.C_below HC.out HB.out) HLC.out HCO.out).mono ?_); rintro e w4 ⟨rfl, hd⟩; have HB4 := Aside0.mk (below_step HB.out hd.below); clear hd)
            go_ret2
            exact ⟨_, rfl, Kd.R_nil _ _ _ _ _, HB4.out⟩
          · rw [if_neg cw] at HBY
            rw [decide_eq_false cw] at HCO
            clear cw
            go_wp2_with (go_at_call 32; (with_reducible refine (slices_Contains_int_int.calls _ Ah ch hs wt false _ (Kd.C_below HC.out HB.out) HLC.out HCO.out).mono ?_); rintro e w4 ⟨rfl, hd⟩; have HB4 := Aside0.mk (below_step HB.out hd.below); have HM4 := Aside0.mk (HM.out.moved (hd.below.block _ HM.out.lt)); clear hd)
            refine ⟨⟨k + 1, n2, f2, by omega, by simp, HM4, HB4, ⟨HBY.out⟩, ⟨by omega⟩⟩, ?_⟩
            show l0.length - ((k : Int) + 1).toNat < l0.length - (k : Int).toNat
            omega
    · have q1 : ((k : Int) < (l0.length : Int)) = False := eq_false (by omega)
      obtain rfl : k = l0.length := by omega
      have hby := HBY.out
      rw [List.drop_eq_nil_of_le (by rw [List.length_map]; exact Nat.le_refl _), byP] at hby
      have HBY := Aside0.mk hby.symm
      clear hby HERR HN
      have hres : r1 = leftP l0.length (passesP l0.length l0.length (waitsP f 0 (l0.map pr52) (fun _ => none))) ∧ r2 = 0 := by
        have e : stuckP (l0.map pr52) = (leftP l0.length (passesP l0.length l0.length (waitsP f 0 (l0.map pr52) (fun _ => none))), 0) := by
          unfold stuckP
          rw [if_neg (by rw [List.length_map]; exact c64), HBY.out]
          simp only [List.length_map]
        have h := HRR.out
        rw [e] at h
        simp only [Prod.mk.injEq] at h
        exact ⟨h.1.symm, h.2.symm⟩
      obtain ⟨hr1, rfl⟩ := hres
      have HRES := Aside0.mk hr1
      clear hr1 HRR HBY
      go_wp2
      have HM1 := Aside0.mk (HM.out.moved (w' := wr.alloc (.map #[] 0)) (Below.heap_alloc wr _ _ HM.out.lt))
      have HW1 := Aside0.mk (MapI.made wr)
      have HB1 := Aside0.mk (below_alloc HB.out (.map #[] 0))
      have HNE := Aside0.mk (show wr.heap.size ≠ w.heap.size from Nat.ne_of_gt HM.out.lt)
      have HLE := Aside0.mk HB.out.size
      clear HM HB
      generalize hw1 : wr.alloc (.map #[] 0) = w1 at HM1 HW1 HB1 ⊢
      generalize hb6 : wr.heap.size = b6 at HW1 HNE HLE ⊢
      clear hw1 hb6
      go_loopw [67] (fun i wr => ∃ (k n2 : Nat) (g : IM), k ≤ l0.length ∧ i = .int .i64 k ∧ Aside0 (MapI wr w.heap.size n f) ∧ Aside0 (MapI wr b6 n2 g) ∧ Aside0 (Below w.heap.size w wr) ∧ Aside0 (waitsP f (k : Int) ((l0.map pr52).drop k) g = waitsP f 0 (l0.map pr52) (fun _ => none)) ∧ Aside0 (n2 ≤ k)) (fun i _ => l0.length - (intOf i).toNat)
      case atStart => exact ⟨0, 0, _, Nat.zero_le _, rfl, HM1, HW1, HB1, ⟨rfl⟩, ⟨Nat.le_refl _⟩⟩
      case round =>
        clear HM1 HW1 HB1
        obtain ⟨k, n2, g, hk, rfl, HM, HW, HB, HWA, HN⟩ := hrel
        by_cases hlt : k < l0.length
        · have q2 : ((k : Int) < (l0.length : Int)) = True := eq_true (by omega)
          obtain ⟨ad, Ah, ch, hA, hc0', hc1', hlc, hC⟩ := at_T52 HR0.out (k : Int) (by omega) (by omega)
          subst hA
          replace hc0' := cell_kept2_ HB.out hc0'
          replace hc1' := cell_kept2_ HB.out hc1'
          rw [Int.toNat_natCast] at hc0' hc1'
          have hin := inAll_get HIN.out k hlt
          have hwa := HWA.out
          rw [drop_L l0 k hlt, waitsP] at hwa
          clear hC hlc HWA
          generalize (rd_T52 l0 (k : Int)).f0 = hs at hc0' hin hwa
          generalize (rd_T52 l0 (k : Int)).f1 = wt at hc1' hin hwa
          have HINS := Aside0.mk hin.1
          have HWA := Aside0.mk hwa
          clear hin hwa
          have HM1 := Aside0.mk (HM.out.moved (w' := wr.alloc (.cells #[.slice Ah hs.length ch, .int .i64 wt] 52)) (Below.heap_alloc wr _ _ HM.out.lt))
          have HW1 := Aside0.mk (HW.out.moved (w' := wr.alloc (.cells #[.slice Ah hs.length ch, .int .i64 wt] 52)) (Below.heap_alloc wr _ _ HW.out.lt))
          have HB1 := Aside0.mk (below_alloc HB.out (.cells #[.slice Ah hs.length ch, .int .i64 wt] 52))
          cases hfw : f wt with
          | none =>
            have HF := Aside0.mk hfw
            rw [hfw] at HWA
            have e1 : (f wt).isSome = false := by rw [hfw]; rfl
            clear hfw
            go_wp2_with (first | (at_lookup; refine IM.look HM1.out rfl _ _ rfl rfl wt HINS.out rfl ?_; intro _))
            refine ⟨⟨k + 1, n2, g, by omega, by simp, HM1, HW1, HB1, ⟨HWA.out⟩, ⟨by have := HN.out; omega⟩⟩, ?_⟩
            show l0.length - ((k : Int) + 1).toNat < l0.length - (k : Int).toNat
            omega
          | some who =>
            have HF := Aside0.mk hfw
            rw [hfw] at HWA
            have e1 : (f wt).isSome = true := by rw [hfw]; rfl
            clear hfw
            have hmax : n2 < maxLen := by have := HN.out; unfold maxLen; omega
            have HMAX := Aside0.mk hmax
            clear hmax
            by_cases cp : wt ≥ 0
            · have HWA2 := Aside0.mk (show waitsP f ((k : Int) + 1) ((l0.map pr52).drop (k + 1)) (if wt ≥ 0 then g.put (k : Int) who else g) = _ from HWA.out)
              rw [if_pos cp] at HWA2
              have q3 : ((0 : Int) ≤ wt) = True := eq_true (by omega)
              clear cp HWA
              go_wp2_with (first | (at_lookup; refine IM.look HM1.out rfl _ _ rfl rfl wt HINS.out rfl ?_; intro hwi; have HWI := Aside0.mk hwi; clear hwi) | (at_mapUpdate; refine IM.store HW1.out rfl _ _ _ rfl rfl HMAX.out (k : Int) ((f wt).getD 0) ⟨by omega, by omega⟩ HWI.out rfl rfl ?_; intro w4 hM4 hG4; have HM4 := Aside0.mk hM4; have HG4 := Aside0.mk hG4; clear hM4 hG4))
              have e2 : (f wt).getD 0 = who := by rw [HF.out]; rfl
              rw [e2] at HM4
              refine ⟨⟨k + 1, n2 + 1, _, by omega, by simp, ⟨HM1.out.grown HG4.out (fun e => HNE.out (by injection e with e; exact e.symm))⟩, HM4, ⟨HB1.out.grown HG4.out HB1.out.size (fun k hk => by injection hk with hk; have := HLE.out; omega)⟩, ⟨HWA2.out⟩, ⟨by have := HN.out; omega⟩⟩, ?_⟩
              show l0.length - ((k : Int) + 1).toNat < l0.length - (k : Int).toNat
              omega
            · have HWA2 := Aside0.mk (show waitsP f ((k : Int) + 1) ((l0.map pr52).drop (k + 1)) (if wt ≥ 0 then g.put (k : Int) who else g) = _ from HWA.out)
              rw [if_neg cp] at HWA2
              have q3 : ((0 : Int) ≤ wt) = False := eq_false (by omega)
              clear cp HWA
              go_wp2_with (first | (at_lookup; refine IM.look HM1.out rfl _ _ rfl rfl wt HINS.out rfl ?_; intro _))
              refine ⟨⟨k + 1, n2, g, by omega, by simp, HM1, HW1, HB1, ⟨HWA2.out⟩, ⟨by have := HN.out; omega⟩⟩, ?_⟩
              show l0.length - ((k : Int) + 1).toNat < l0.length - (k : Int).toNat
              omega
        · have q2 : ((k : Int) < (l0.length : Int)) = False := eq_false (by omega)
          obtain rfl : k = l0.length := by omega
          have hwa := HWA.out
          rw [List.drop_eq_nil_of_le (by rw [List.length_map]; exact Nat.le_refl _), waitsP] at hwa
          rw [← hwa] at HRES
          clear hwa HWA HM HN
          go_wp2
          go_loopw [91] (fun i wr => ∃ (m : Nat) (g1 : IM), m ≤ l0.length ∧ i = .int .i64 m ∧ Aside0 (MapI wr b6 n2 g1) ∧ Aside0 (Below w.heap.size w wr) ∧ Aside0 (passesP l0.length (l0.length - m) g1 = passesP l0.length l0.length g)) (fun i _ => l0.length - (intOf i).toNat)
          case atStart => exact ⟨0, g, Nat.zero_le _, rfl, HW, HB, ⟨by rw [Nat.sub_zero]⟩⟩
          case round =>
            clear HW HB
            obtain ⟨m, g1, hm, rfl, HW, HB, HP⟩ := hrel
            by_cases hlm : m < l0.length
            · have q4 : ((m : Int) < (l0.length : Int)) = True := eq_true (by omega)
              go_wp2
              go_loopw [95] (fun i wr => ∃ (k2 : Nat) (g2 : IM), k2 ≤ l0.length ∧ i = .int .i64 k2 ∧ Aside0 (MapI wr b6 n2 g2) ∧ Aside0 (Below w.heap.size w wr) ∧ Aside0 (((List.range l0.length).drop k2).foldl (fun (g : IM) (k : Nat) => stripP (k : Int) g) g2 = passP l0.length g1)) (fun i _ => l0.length - (intOf i).toNat)
              case atStart => exact ⟨0, g1, Nat.zero_le _, rfl, HW, HB, ⟨rfl⟩⟩
              case round =>
                clear HW HB
                obtain ⟨k2, g2, hk2, rfl, HW, HB, HS⟩ := hrel
                by_cases hlk : k2 < l0.length
                · have q5 : ((k2 : Int) < (l0.length : Int)) = True := eq_true (by omega)
                  have hs := HS.out
                  rw [range_drop _ _ hlk, List.foldl_cons] at hs
                  have HS := Aside0.mk hs
                  clear hs
                  cases hg : g2 (k2 : Int) with
                  | none =>
                    have e1 : (g2 (k2 : Int)).isSome = false := by rw [hg]; rfl
                    have hst : stripP (k2 : Int) g2 = g2 := by unfold stripP; rw [hg]
                    rw [hst] at HS
                    clear hg hst
                    go_wp2_with (first | (at_lookup; refine IM.look HW.out rfl _ _ rfl rfl (k2 : Int) ⟨by omega, by omega⟩ rfl ?_; intro _))
                    refine ⟨⟨k2 + 1, _, by omega, by simp, HW, HB, ⟨HS.out⟩⟩, ?_⟩
                    show l0.length - ((k2 : Int) + 1).toNat < l0.length - (k2 : Int).toNat
                    omega
                  | some who =>
                    have e1 : (g2 (k2 : Int)).isSome = true := by rw [hg]; rfl
                    have hw2 : who = (g2 (k2 : Int)).getD 0 := by rw [hg]; rfl
                    by_cases cm : (g2 ((g2 (k2 : Int)).getD 0)).isSome = true
                    · have hst : stripP (k2 : Int) g2 = g2 := by unfold stripP; rw [hg]; simp only; rw [hw2, if_pos cm]
                      rw [hst] at HS
                      clear hg hst hw2
                      go_wp2_with (first | (at_lookup; (first | (refine IM.look HW.out rfl _ _ rfl rfl (k2 : Int) ⟨by omega, by omega⟩ rfl ?_; intro hwi; have HWI := Aside0.mk hwi; clear hwi) | (refine IM.look HW.out rfl _ _ rfl rfl ((g2 (k2 : Int)).getD 0) HWI.out rfl ?_; intro _))))
                      refine ⟨⟨k2 + 1, _, by omega, by simp, HW, HB, ⟨HS.out⟩⟩, ?_⟩
                      show l0.length - ((k2 : Int) + 1).toNat < l0.length - (k2 : Int).toNat
                      omega
                    · have hst : stripP (k2 : Int) g2 = g2.del (k2 : Int) := by unfold stripP; rw [hg]; simp only; rw [hw2, if_neg cm]
                      rw [hst] at HS
                      have cm' : (g2 ((g2 (k2 : Int)).getD 0)).isSome = false := by simpa using cm
                      clear hg hst hw2 cm
                      go_wp2_with (first | (at_lookup; (first | (refine IM.look HW.out rfl _ _ rfl rfl (k2 : Int) ⟨by omega, by omega⟩ rfl ?_; intro hwi; have HWI := Aside0.mk hwi; clear hwi) | (refine IM.look HW.out rfl _ _ rfl rfl ((g2 (k2 : Int)).getD 0) HWI.out rfl ?_; intro _))) | (at_delete; refine IM.drop HW.out rfl _ _ rfl rfl (k2 : Int) ⟨by omega, by omega⟩ rfl ?_; intro w4 hM4 hG4; have HM4 := Aside0.mk hM4; have HG4 := Aside0.mk hG4; clear hM4 hG4))
                      refine ⟨⟨k2 + 1, _, by omega, by simp, HM4, ⟨HB.out.grown HG4.out HB.out.size (fun k hk => by injection hk with hk; have := HLE.out; omega)⟩, ⟨HS.out⟩⟩, ?_⟩
                      show l0.length - ((k2 : Int) + 1).toNat < l0.length - (k2 : Int).toNat
                      omega
                · have q5 : ((k2 : Int) < (l0.length : Int)) = False := eq_false (by omega)
                  obtain rfl : k2 = l0.length := by omega
                  have hs := HS.out
                  rw [List.drop_eq_nil_of_le (by simp), List.foldl_nil] at hs
                  have hp := HP.out
                  rw [show l0.length - m = (l0.length - (m + 1)) + 1 by omega, passesP, ← hs] at hp
                  have HP := Aside0.mk hp
                  clear hs hp HS
                  go_wp2
                  refine ⟨⟨m + 1, g2, by omega, by simp, HW, HB, ⟨HP.out⟩⟩, ?_⟩
                  show l0.length - ((m : Int) + 1).toNat < l0.length - (m : Int).toNat
                  omega
            · have q4 : ((m : Int) < (l0.length : Int)) = False := eq_false (by omega)
              obtain rfl : m = l0.length := by omega
              have hp := HP.out
              rw [Nat.sub_self, passesP] at hp
              rw [← hp] at HRES
              clear hp HP
              go_wp2
              go_loopw [119, 21] (fun i vo wr => ∃ (k2 : Nat) (xs : List Int), k2 ≤ l0.length ∧ i = .int .i64 k2 ∧ Aside0 (MapI wr b6 n2 g1) ∧ Aside0 (Below w.heap.size w wr) ∧ Aside0 (Kd.R (Kd.int .i64) 3 wr w.heap.size (fun k => k ≠ b6) vo xs) ∧ Aside0 (xs = (((List.range k2).filter fun (k : Nat) => (g1 (k : Int)).isSome).map fun (k : Nat) => (k : Int)))) (fun i _ _ => l0.length - (intOf i).toNat)
              case atStart => exact ⟨0, [], Nat.zero_le _, rfl, HW, HB, ⟨Kd.R_nil _ _ _ _ _⟩, ⟨rfl⟩⟩
              case round =>
                clear HW HB
                obtain ⟨k2, xs, hk2, rfl, HW, HB, HR, HX⟩ := hrel
                have hlx : xs.length ≤ k2 := by
                  rw [HX.out, List.length_map]
                  exact Nat.le_trans (List.length_filter_le _ _) (by rw [List.length_range]; exact Nat.le_refl _)
                by_cases hlk : k2 < l0.length
                · have q5 : ((k2 : Int) < (l0.length : Int)) = True := eq_true (by omega)
                  by_cases cm : (g1 (k2 : Int)).isSome = true
                  · have hx2 : xs ++ [(k2 : Int)] = (((List.range (k2 + 1)).filter fun (k : Nat) => (g1 (k : Int)).isSome).map fun (k : Nat) => (k : Int)) := by
                      rw [List.range_succ, List.filter_append, List.map_append, ← HX.out, List.filter_cons, if_pos cm]
                      rfl
                    have HX2 := Aside0.mk hx2
                    have hlt2 := HW.out.lt
                    have HL2 := Aside0.mk hlt2
                    clear HX hx2
                    go_wp2_with (first | (at_lookup; refine IM.look HW.out rfl _ _ rfl rfl (k2 : Int) ⟨by omega, by omega⟩ rfl ?_; intro _) | (at_builtin; refine Kd.R_append (Kd.int .i64) (w0 := w) w.heap.size rfl (.tmp 129) (.tmp 131) 22 3 (.int .i64 0) 8 rfl Try.underlying22 info3 rfl (by decide) (by omega) _ xs (k2 : Int) [.int .i64 (k2 : Int)] (fun k => k ≠ b6) (fun _ => False) rfl rfl rfl (fun _ hk => hk.elim) (fun k hk e => by have := HL2.out; omega) HR.out HB.out HB.out.size (by omega) ?_; intro v5 w5 hR5 hB5 hg5 hat5; have HR5 := Aside0.mk hR5; have HB5 := Aside0.mk hB5; have HW5 := Aside0.mk (HW.out.grown hg5 (fun e => HR.out.1 _ e.symm rfl)); clear hR5 hB5 hg5 hat5))
                    refine ⟨⟨k2 + 1, _, by omega, by simp, HW5, HB5, HR5, HX2⟩, ?_⟩
                    show l0.length - ((k2 : Int) + 1).toNat < l0.length - (k2 : Int).toNat
                    omega
                  · have cm' : (g1 (k2 : Int)).isSome = false := by simpa using cm
                    have hx2 : xs = (((List.range (k2 + 1)).filter fun (k : Nat) => (g1 (k : Int)).isSome).map fun (k : Nat) => (k : Int)) := by
                      rw [List.range_succ, List.filter_append, List.map_append, ← HX.out, List.filter_cons, if_neg cm]
                      simp
                    have HX2 := Aside0.mk hx2
                    clear HX hx2 cm
                    go_wp2_with (first | (at_lookup; refine IM.look HW.out rfl _ _ rfl rfl (k2 : Int) ⟨by omega, by omega⟩ rfl ?_; intro _))
                    refine ⟨⟨k2 + 1, _, by omega, by simp, HW, HB, HR, HX2⟩, ?_⟩
                    show l0.length - ((k2 : Int) + 1).toNat < l0.length - (k2 : Int).toNat
                    omega
                · have q5 : ((k2 : Int) < (l0.length : Int)) = False := eq_false (by omega)
                  obtain rfl : k2 = l0.length := by omega
                  have hr : r1 = xs := by
                    rw [HRES.out, HX.out]; rfl
                  subst hr
                  clear HRES HX
                  go_wp2
                  go_ret2
                  exact ⟨_, rfl, Kd.R_mono HR.out (fun _ _ => trivial), HB.out⟩


/-! ### locks_odd: function 28 -/
def locks_odd.f (l0_0 : List Int) (a1 : Int) (a2 : Int) : Option (Bool) := if a1 < 0 then (some true) else (if a1 ≥ (l0_0.length : Int) then (some true) else (some (decide (a2 < 0))))
set_option maxHeartbeats 8000000 in
set_option maxRecDepth 100000 in
theorem locks_odd.calls (A0_0 : Option Addr) (c0_0 : Nat) (l0_0 : List Int) (a1 : Int) (a2 : Int) (r : Bool) (w : World) (hr0_0 : Kd.C (Kd.int .i64) w A0_0 l0_0.length l0_0) (hc0_0 : l0_0.length ≤ c0_0) (h : locks_odd.f l0_0 a1 a2 = some r) :
    Calls Try.prog 28 #[.agg #[.slice A0_0 l0_0.length c0_0], .int .i64 a1, .int .i64 a2] w fun e w' => e = .returned (.bool r) ∧ Below w.heap.size w w' := by
  have hu24 := Try.underlying24
  have HR0_0 := Aside0.mk hr0_0
  have HC0_0 := Aside0.mk hc0_0
  clear hr0_0 hc0_0
  have HB := Aside0.mk (Below.refl w.heap.size w)
  have H : (if a1 < 0 then (some true) else (if a1 ≥ (l0_0.length : Int) then (some true) else (some (decide (a2 < 0))))) = some r := h
  clear h
  by_cases c4 : a1 < 0
  · rw [if_pos c4] at H
    have c4b0 : decide (a1 < 0) = true := decide_eq_true c4
    clear c4
    obtain rfl := Option.some.inj H
    go_enter Try.func28, Try.ntmps28
    go_wp2_with (first | ((with_reducible refine gate_dst (N := 3) rfl ?_); (try (refine gate_guard (by rfl) ?_; dsimp only)); refine box_event ?hg (N := 3) ?hd (cs := #[.slice A0_0 l0_0.length c0_0]) (t := 24) ?hr ?_; (case hd => rfl); (case hg => rfl); (case hr => first | (go_simp; done) | (go_simp; rfl)); intro gb105 hg w5 hbox hb; have n0_ := Aside0.mk (below_step (by repeat (first | (with_reducible first | exact HB.out | apply below_alloc | apply pw_below_drewN | apply below_drew1) | exact HB.out)) hb); have n1_ := Aside0.mk (hbox); have n2_ := Aside0.mk ((by rw [hg]; exact (below_size (by repeat (first | (with_reducible first | exact HB.out | apply below_alloc | apply pw_below_drewN | apply below_drew1) | exact HB.out))) : w.heap.size ≤ gb105)); have n3_ := Aside0.mk ((by rw [hg]; exact (below_size (by repeat (first | (with_reducible first | exact HB.out | apply below_alloc | apply pw_below_drewN | apply below_drew1) | exact HB.out))) : w.heap.size ≤ gb105)); clear HB; have HB := n0_; have BK105 := n1_; have GW105 := n2_; have GE105 := n3_; clear n0_ n1_ n2_ n3_; clear hb hbox hg))
    go_ret
    exact ⟨by first | rfl | (simp [errW_none, errW_some] <;> rfl) | (simp [*, errW_none, errW_some] <;> rfl), by repeat (first | (with_reducible first | exact HB.out | apply below_alloc | apply pw_below_drewN | apply below_drew1 | refine below_set ?_ GE105.out) | exact HB.out)⟩
  · rw [if_neg c4] at H
    have c4b0 : decide (a1 < 0) = false := decide_eq_false c4
    clear c4
    by_cases c6 : a1 ≥ (l0_0.length : Int)
    · rw [if_pos c6] at H
      have c6b0 : decide ((l0_0.length : Int) ≤ a1) = true := decide_eq_true c6
      clear c6
      obtain rfl := Option.some.inj H
      go_enter Try.func28, Try.ntmps28
      go_wp2_with (first | ((with_reducible refine gate_dst (N := 3) rfl ?_); (try (refine gate_guard (by rfl) ?_; dsimp only)); refine box_event ?hg (N := 3) ?hd (cs := #[.slice A0_0 l0_0.length c0_0]) (t := 24) ?hr ?_; (case hd => rfl); (case hg => rfl); (case hr => first | (go_simp; done) | (go_simp; rfl)); intro gb105 hg w7 hbox hb; have n0_ := Aside0.mk (below_step (by repeat (first | (with_reducible first | exact HB.out | apply below_alloc | apply pw_below_drewN | apply below_drew1) | exact HB.out)) hb); have n1_ := Aside0.mk (hbox); have n2_ := Aside0.mk ((by rw [hg]; exact (below_size (by repeat (first | (with_reducible first | exact HB.out | apply below_alloc | apply pw_below_drewN | apply below_drew1) | exact HB.out))) : w.heap.size ≤ gb105)); have n3_ := Aside0.mk ((by rw [hg]; exact (below_size (by repeat (first | (with_reducible first | exact HB.out | apply below_alloc | apply pw_below_drewN | apply below_drew1) | exact HB.out))) : w.heap.size ≤ gb105)); clear HB; have HB := n0_; have BK105 := n1_; have GW105 := n2_; have GE105 := n3_; clear n0_ n1_ n2_ n3_; clear hb hbox hg; have hcz8_0 : w7.cell? ⟨gb105, 0, none⟩ = some (.slice A0_0 l0_0.length c0_0) := (blk_cell BK105.out 0).trans rfl; have hfz8_0 := blk_frozen BK105.out 0))
      go_ret
      exact ⟨by first | rfl | (simp [errW_none, errW_some] <;> rfl) | (simp [*, errW_none, errW_some] <;> rfl), by repeat (first | (with_reducible first | exact HB.out | apply below_alloc | apply pw_below_drewN | apply below_drew1 | refine below_set ?_ GE105.out) | exact HB.out)⟩
    · rw [if_neg c6] at H
      have c6b0 : decide ((l0_0.length : Int) ≤ a1) = false := decide_eq_false c6
      clear c6
      obtain rfl := Option.some.inj H
      go_enter Try.func28, Try.ntmps28
      go_wp2_with (first | ((with_reducible refine gate_dst (N := 3) rfl ?_); (try (refine gate_guard (by rfl) ?_; dsimp only)); refine box_event ?hg (N := 3) ?hd (cs := #[.slice A0_0 l0_0.length c0_0]) (t := 24) ?hr ?_; (case hd => rfl); (case hg => rfl); (case hr => first | (go_simp; done) | (go_simp; rfl)); intro gb105 hg w9 hbox hb; have n0_ := Aside0.mk (below_step (by repeat (first | (with_reducible first | exact HB.out | apply below_alloc | apply pw_below_drewN | apply below_drew1) | exact HB.out)) hb); have n1_ := Aside0.mk (hbox); have n2_ := Aside0.mk ((by rw [hg]; exact (below_size (by repeat (first | (with_reducible first | exact HB.out | apply below_alloc | apply pw_below_drewN | apply below_drew1) | exact HB.out))) : w.heap.size ≤ gb105)); have n3_ := Aside0.mk ((by rw [hg]; exact (below_size (by repeat (first | (with_reducible first | exact HB.out | apply below_alloc | apply pw_below_drewN | apply below_drew1) | exact HB.out))) : w.heap.size ≤ gb105)); clear HB; have HB := n0_; have BK105 := n1_; have GW105 := n2_; have GE105 := n3_; clear n0_ n1_ n2_ n3_; clear hb hbox hg; have hcz10_0 : w9.cell? ⟨gb105, 0, none⟩ = some (.slice A0_0 l0_0.length c0_0) := (blk_cell BK105.out 0).trans rfl; have hfz10_0 := blk_frozen BK105.out 0))
      go_ret
      exact ⟨by first | rfl | (simp [errW_none, errW_some] <;> rfl) | (simp [*, errW_none, errW_some] <;> rfl), by repeat (first | (with_reducible first | exact HB.out | apply below_alloc | apply pw_below_drewN | apply below_drew1 | refine below_set ?_ GE105.out) | exact HB.out)⟩

/-! ### slices_Clone_int_int: function 38 -/
def slices_Clone_int_int.f (l0 : List Int) : Option (List Int) := if l0.length < 17592186044416 then some l0 else none
theorem slices_Clone_int_int.calls (A0 : Option Addr) (c0 : Nat) (l0 : List Int) (r : List Int) (w : World) (hr0 : Kd.C (Kd.int .i64) w A0 l0.length l0) (hc0 : l0.length ≤ c0) (h : slices_Clone_int_int.f l0 = some r) :
    Calls Try.prog 38 #[.slice A0 l0.length c0] w fun e w' => ∃ v0_ : Value, e = .returned (v0_) ∧ Kd.R (Kd.int .i64) 3 w' w.heap.size (fun _ => True) v0_ r ∧ Below w.heap.size w w' := by
  unfold slices_Clone_int_int.f at h
  by_cases c : l0.length < 17592186044416
  · rw [if_pos c] at h
    obtain rfl := Option.some.inj h
    exact SlI.clone_any A0 c0 l0 w hr0 c
  · rw [if_neg c] at h
    cases h


/-! ### locks_with: function 29 -/
def locks_with.f (l0_0 : List Int) (a1 : Int) (a2 : Int) : Option (List Int) := (slices_Clone_int_int.f l0_0).bind fun t108 => (if 0 ≤ a1 then (if a1 < (t108.length : Int) then (some (t108.set (a1 : Int).toNat a2)) else (none)) else (none))
set_option maxHeartbeats 8000000 in
set_option maxRecDepth 100000 in
theorem locks_with.calls (A0_0 : Option Addr) (c0_0 : Nat) (l0_0 : List Int) (a1 : Int) (a2 : Int) (r : List Int) (w : World) (hr0_0 : Kd.C (Kd.int .i64) w A0_0 l0_0.length l0_0) (hc0_0 : l0_0.length ≤ c0_0) (h : locks_with.f l0_0 a1 a2 = some r) :
    Calls Try.prog 29 #[.agg #[.slice A0_0 l0_0.length c0_0], .int .i64 a1, .int .i64 a2] w fun e w' => ∃ v0_ : Value, e = .returned (.agg #[v0_]) ∧ Kd.R (Kd.int .i64) 3 w' w.heap.size (fun _ => True) v0_ r ∧ Below w.heap.size w w' := by
  have hu24 := Try.underlying24
  have HR0_0 := Aside0.mk hr0_0
  have HC0_0 := Aside0.mk hc0_0
  clear hr0_0 hc0_0
  have HB := Aside0.mk (Below.refl w.heap.size w)
  have H : ((slices_Clone_int_int.f l0_0).bind fun t108 => (if 0 ≤ a1 then (if a1 < (t108.length : Int) then (some (t108.set (a1 : Int).toNat a2)) else (none)) else (none))) = some r := h
  clear h
  replace H := Option.bind_eq_some_iff.mp H
  obtain ⟨t108, A40, H⟩ := H
  replace H : (if 0 ≤ a1 then (if a1 < (t108.length : Int) then (some (t108.set (a1 : Int).toNat a2)) else (none)) else (none)) = some r := H
  have A4 := Aside0.mk A40
  clear A40
  by_cases c5 : 0 ≤ a1
  · rw [if_pos c5] at H
    have c5b0 : decide (0 ≤ a1) = true := decide_eq_true c5
    clear c5
    by_cases c6 : a1 < (t108.length : Int)
    · rw [if_pos c6] at H
      have c6b0 : decide (a1 < (t108.length : Int)) = true := decide_eq_true c6
      clear c6
      obtain ⟨y111, hy111⟩ : ∃ y_ : List Int, y_ = (t108.set (a1 : Int).toNat a2) := ⟨_, rfl⟩
      replace H : (some y111) = some r := by first | (rw [hy111]; with_reducible exact H) | (have H2_ := (Option.bind_some _ _).symm.trans H; rw [hy111]; with_reducible exact H2_) | (have H2_ := (Option.bind_some _ _).symm.trans H; with_reducible exact H2_) | with_reducible exact H | (rw [hy111]; exact H) | exact H
      have Ny111 := Aside0.mk hy111
      clear hy111
      obtain rfl := Option.some.inj H
      go_enter Try.func29, Try.ntmps29
      go_wp2_with (first | ((with_reducible refine gate_dst (N := 3) rfl ?_); refine box_event ?hg (N := 3) ?hd (cs := #[.slice A0_0 l0_0.length c0_0]) (t := 24) ?hr ?_; (case hd => rfl); (case hg => rfl); (case hr => first | (go_simp; done) | (go_simp; rfl)); intro gb106 hg w8 hbox hb; have n0_ := Aside0.mk (below_step (by repeat (first | (with_reducible first | exact HB.out | apply below_alloc | apply pw_below_drewN | apply below_drew1) | exact HB.out)) hb); have n1_ := Aside0.mk (hbox); have n2_ := Aside0.mk ((by rw [hg]; exact (below_size (by repeat (first | (with_reducible first | exact HB.out | apply below_alloc | apply pw_below_drewN | apply below_drew1) | exact HB.out))) : w.heap.size ≤ gb106)); have n3_ := Aside0.mk ((by rw [hg]; exact (below_size (by repeat (first | (with_reducible first | exact HB.out | apply below_alloc | apply pw_below_drewN | apply below_drew1) | exact HB.out))) : w.heap.size ≤ gb106)); clear HB; have HB := n0_; have BK106 := n1_; have GW106 := n2_; have GE106 := n3_; clear n0_ n1_ n2_ n3_; clear hb hbox hg) | ((with_reducible refine gate_dst (N := 6) rfl ?_); refine box_event ?hg (N := 6) ?hd (cs := #[.slice none 0 0]) (t := 24) ?hr ?_; (case hd => rfl); (case hg => rfl); (case hr => first | (go_simp; done) | (go_simp; rfl)); intro gb107 hg w9 hbox hb; have n0_ := Aside0.mk (blk_below (g := gb106) (o := .cells #[.slice A0_0 l0_0.length c0_0] 24 (0, 0)) (by (with_reducible repeat (first | refine blk_drewN ?_ _ | refine blk_drew ?_ | refine blk_alloc ?_ _)); exact BK106.out) hb); have n1_ := Aside0.mk (below_step (by repeat (first | (with_reducible first | exact HB.out | apply below_alloc | apply pw_below_drewN | apply below_drew1 | refine below_set ?_ GE106.out) | exact HB.out)) hb); have n2_ := Aside0.mk (hbox); have n3_ := Aside0.mk ((by rw [hg]; exact (below_size (by repeat (first | (with_reducible first | exact HB.out | apply below_alloc | apply pw_below_drewN | apply below_drew1 | refine below_set ?_ GE106.out) | exact HB.out))) : w.heap.size ≤ gb107)); have n4_ := Aside0.mk ((by rw [hg]; exact (below_size (by repeat (first | (with_reducible first | exact HB.out | apply below_alloc | apply pw_below_drewN | apply below_drew1 | refine below_set ?_ GE106.out) | exact HB.out))) : w.heap.size ≤ gb107)); have n5_ := Aside0.mk ((by rw [hg]; exact Nat.ne_of_lt (blk_lt (g := gb106) (o := .cells #[.slice A0_0 l0_0.length c0_0] 24 (0, 0)) (by (with_reducible repeat (first | refine blk_drewN ?_ _ | refine blk_drew ?_ | refine blk_alloc ?_ _)); exact BK106.out)) : gb106 ≠ gb107)); have n6_ := Aside0.mk ((by rw [hg]; exact Nat.ne_of_gt (blk_lt (g := gb106) (o := .cells #[.slice A0_0 l0_0.length c0_0] 24 (0, 0)) (by (with_reducible repeat (first | refine blk_drewN ?_ _ | refine blk_drew ?_ | refine blk_alloc ?_ _)); exact BK106.out)) : gb107 ≠ gb106)); clear BK106; clear HB; have BK106 := n0_; have HB := n1_; have BK107 := n2_; have GW107 := n3_; have GE107 := n4_; have NB106_107 := n5_; have NB107_106 := n6_; clear n0_ n1_ n2_ n3_ n4_ n5_ n6_; clear hb hbox hg; have hnb10 := NB106_107.out; have hnc10 := NB107_106.out; have hcz11_0 : w9.cell? ⟨gb106, 0, none⟩ = some (.slice A0_0 l0_0.length c0_0) := (blk_cell BK106.out 0).trans rfl; have hfz11_0 := blk_frozen BK106.out 0) | ((with_reducible refine gate_callee (f := 38) rfl ?_); refine goesL_ (some 10) rfl rfl Try.func38 (by kernel_rfl) rfl #[.slice A0_0 l0_0.length c0_0] rfl (by (try simp only [List.map_toArray, List.map_cons, List.map_nil]); first | done | rfl | (simp only [List.length_drop, List.length_take]; rfl)) ?_; (with_reducible refine (slices_Clone_int_int.calls _ _ l0_0 t108 _ ?side1 ?side2 A4.out).mono ?_); (case side1 => repeat (first | exact (Kd.C_below HR0_0.out HB.out) | (with_reducible refine Kd.C_alloc ?_ _) | (with_reducible refine Kd.C_drewN ?_ _) | (with_reducible refine Kd.C_drew ?_))); (case side2 => exact HC0_0.out); rintro e w12 ⟨v109, rfl, ho0, hb⟩; refine ⟨_, rfl, ?_⟩; have n0_ := Aside0.mk (Kd.R_lower ho0 (below_size (by repeat (first | (with_reducible first | exact HB.out | apply below_alloc | apply pw_below_drewN | apply below_drew1 | refine below_set ?_ GE106.out | refine below_set ?_ GE107.out) | exact HB.out)))); have n1_ := Aside0.mk (blk_below (g := gb106) (o := .cells #[.slice A0_0 l0_0.length c0_0] 24 (0, 0)) (by (with_reducible repeat (first | refine blk_drewN ?_ _ | refine blk_drew ?_ | refine blk_alloc ?_ _)); exact BK106.out) hb); have n2_ := Aside0.mk (blk_below (g := gb107) (o := .cells #[.slice none 0 0] 24 (0, 0)) (by (with_reducible repeat (first | refine blk_drewN ?_ _ | refine blk_drew ?_ | refine blk_alloc ?_ _)); exact BK107.out) hb); have n3_ := Aside0.mk (below_step (by repeat (first | (with_reducible first | exact HB.out | apply below_alloc | apply pw_below_drewN | apply below_drew1 | refine below_set ?_ GE106.out | refine below_set ?_ GE107.out) | exact HB.out)) hb); clear BK106; clear BK107; clear HB; have HO110 := n0_; have BK106 := n1_; have BK107 := n2_; have HB := n3_; clear n0_ n1_ n2_ n3_; (try clear hb); (try clear hb2); (try clear hk); (try clear hi); (try clear ho0); have p7 : 0 ≤ (a1 : Int) := of_decide_eq_true (by first | (with_reducible assumption) | assumption); have q7 : (a1 : Int) < ((t108.length : Int) : Int) := of_decide_eq_true (by first | (with_reducible assumption) | assumption); obtain ⟨go7, co7, eo7, gb7, gl7, cl7, HG7⟩ := Kd.R_form HO110.out (by omega); (first | cases eo7 | (injection eo7 with ea_ en_ ec_; (first | subst ea_ | (injection ea_ with ea_; subst ea_)); subst ec_; clear en_)); have GB7 := Aside0.mk gb7; have GG7 := Aside0.mk HG7; clear gb7 gl7 HG7; obtain ⟨hx7_0, hf7_0⟩ := Kd.R_celln 0 HO110.out (a1 : Int) p7 q7; replace p7 := eq_true p7; replace q7 := eq_true q7; obtain ⟨hy13_, hz13_⟩ := Kd.R_celln 0 HO110.out (a1 : Int) (of_decide_eq_true (by first | (with_reducible assumption) | assumption)) (of_decide_eq_true (by first | (with_reducible assumption) | assumption)); have HP13 := Kd.R_putg HO110.out (a1 : Int) a2) | ((with_reducible refine gate_store (t := 3) (p := 14) rfl ?_); refine store_event (t := 3) (p := 14) (v := ?vo_w14) (w1 := (w12.setCell ⟨go7, (a1 : Int).toNat, none⟩ (.int .i64 a2))) ?hg ?ho ?hn ?hr ?_; (case ho => rfl); (case hg => rfl); (case hn => rfl); (case hr => first | (go_simp; done) | (go_simp; rfl)); intro w14 hw; have hg : w12.grownBy w14 (some go7) := (by rw [hw]; exact HP13.2); have hp_ : Kd.R (Kd.int .i64) 3 w14 w.heap.size (fun _ => True) (.slice (some ⟨go7, 0, none⟩) t108.length co7) y111 := (by rw [hw, Ny111.out]; exact HP13.1); clear HP13; have n0_ := Aside0.mk (blk_grown (g := gb106) (o := .cells #[.slice A0_0 l0_0.length c0_0] 24 (0, 0)) (by (with_reducible repeat (first | refine blk_drewN ?_ _ | refine blk_drew ?_ | refine blk_alloc ?_ _)); exact BK106.out) hg (Kd.R_ne HO110.out BK106.out (by decide))); have n1_ := Aside0.mk (blk_grown (g := gb107) (o := .cells #[.slice none 0 0] 24 (0, 0)) (by (with_reducible repeat (first | refine blk_drewN ?_ _ | refine blk_drew ?_ | refine blk_alloc ?_ _)); exact BK107.out) hg (Kd.R_ne HO110.out BK107.out (by decide))); have n2_ := Aside0.mk (hp_); have n3_ := Aside0.mk ((by rw [hw]; exact below_set (HB.out) GB7.out : Below w.heap.size w w14)); clear BK106; clear BK107; clear HO110; clear HB; have BK106 := n0_; have BK107 := n1_; have HO110 := n2_; have HB := n3_; clear n0_ n1_ n2_ n3_; clear hg hw hp_; have hcz15_0 : w14.cell? ⟨gb107, 0, none⟩ = some (.slice none 0 0) := (blk_cell BK107.out 0).trans rfl; have hfz15_0 := blk_frozen BK107.out 0))
      refine bodyPost_ret (results_cell_row rfl _ _ gb107 24 #[.slice (some ⟨go7, 0, none⟩) t108.length co7] (0, 0) _ rfl (by (with_reducible repeat (first | refine blk_drewN ?_ _ | refine blk_drew ?_ | refine blk_alloc ?_ _)); refine blk_put (cs := #[.slice none 0 0]) ?_ 0 _ rfl; (with_reducible repeat (first | refine blk_drewN ?_ _ | refine blk_drew ?_ | refine blk_alloc ?_ _)); exact BK107.out) Try.underlying24 rfl (by kernel_rfl)) rfl ?_
      exact ⟨_, by first | rfl | (simp [errW_none, errW_some] <;> rfl) | (simp [*, errW_none, errW_some] <;> rfl), by (with_reducible repeat (first | apply Kd.R_alloc | apply Kd.R_drewN | apply Kd.R_drew)); exact Kd.R_mono (Kd.R_far (p := ⟨gb107, 0, none⟩) (Kd.R_types HO110.out BK107.out (by decide)) (fun _ hk => hk.2) (.slice (some ⟨go7, 0, none⟩) t108.length co7)) (fun _ hk => trivial), by repeat (first | (with_reducible first | exact HB.out | apply below_alloc | apply pw_below_drewN | apply below_drew1 | refine below_set ?_ GE106.out | refine below_set ?_ GE107.out) | exact HB.out)⟩
    · rw [if_neg c6] at H
      exact absurd H (by simp)
  · rw [if_neg c5] at H
    exact absurd H (by simp)

end Go.Proofs.Ytiidjnnagbfokaa.QLocksEnds
