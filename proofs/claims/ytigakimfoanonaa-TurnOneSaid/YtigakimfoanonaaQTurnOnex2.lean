-- Printed by a program of this session out of Lean's own print of the program; contracts proved by hand stand in it, too.
import Derived.Test.YtigakimfoanonaaQTurnOnex0
import Derived.Test.YtigakimfoanonaaQTurnOnex1
namespace Go.Proofs.Ytigakimfoanonaa.QTurnOne
open Go.RowKit Go.Proofs.YtigakimfoanonaaW.PrintWords Go.Proofs.YtigakimfoanonaaW.PrintLast Go.Proofs.YtigakimfoanonaaW.PrintMore
attribute [local go_sem] max2_int min2_int max_two min_two max_three min_three max_four min_four   -- for this text's walks alone
set_option linter.unusedVariables false
set_option linter.unusedSimpArgs false

/-! ### turnspitlaw03_TurnOne: function 7 -/
mutual
def turnspitlaw03_TurnOne.j0 : Nat → Int → Int → Bool → Bool → Bool → Bool → Option (Bool)
  | 0, _, _, _, _, _, _ => none
  | k + 1, x0, x1, x5, x6, x7, x8 => (turn_Later.f x0 x1).bind fun t119 => ((turn_Earlier.f x0 x1).bind fun t120 => (if x6 = true then (if x7 = true then (turnspitlaw03_TurnOne.j1 k x0 x1 x5 t119 t120 true) else (turnspitlaw03_TurnOne.j1 k x0 x1 x5 t119 t120 (x8 == true))) else (turnspitlaw03_TurnOne.j1 k x0 x1 x5 t119 t120 (x8 == x7))))
def turnspitlaw03_TurnOne.j1 : Nat → Int → Int → Bool → Int → Int → Bool → Option (Bool)
  | 0, _, _, _, _, _, _ => none
  | k + 1, x0, x1, x5, x9, x10, x46 => if x46 = true then (some false) else (if x5 = true then (if x9 = x0 then (if x10 = x0 then ((turn_Before.f x9 x0).bind fun t121 => (if t121 = true then (some false) else ((turn_Before.f x9 x1).bind fun t122 => (if t122 = true then (some false) else ((turn_Before.f x0 x10).bind fun t123 => (if t123 = true then (some false) else ((turn_Before.f x1 x10).bind fun t124 => (some (!t124))))))))) else (if x10 = x1 then ((turn_Before.f x9 x0).bind fun t125 => (if t125 = true then (some false) else ((turn_Before.f x9 x1).bind fun t126 => (if t126 = true then (some false) else ((turn_Before.f x0 x10).bind fun t127 => (if t127 = true then (some false) else ((turn_Before.f x1 x10).bind fun t128 => (some (!t128))))))))) else (some false))) else (if x9 = x1 then (if x10 = x0 then ((turn_Before.f x9 x0).bind fun t129 => (if t129 = true then (some false) else ((turn_Before.f x9 x1).bind fun t130 => (if t130 = true then (some false) else ((turn_Before.f x0 x10).bind fun t131 => (if t131 = true then (some false) else ((turn_Before.f x1 x10).bind fun t132 => (some (!t132))))))))) else (if x10 = x1 then ((turn_Before.f x9 x0).bind fun t133 => (if t133 = true then (some false) else ((turn_Before.f x9 x1).bind fun t134 => (if t134 = true then (some false) else ((turn_Before.f x0 x10).bind fun t135 => (if t135 = true then (some false) else ((turn_Before.f x1 x10).bind fun t136 => (some (!t136))))))))) else (some false))) else (some false))) else (some false))
end
def turnspitlaw03_TurnOne.f (k : Nat) (a0 : Int) (a1 : Int) : Option (Bool) := (turnspitlaw03_awake.f).bind fun t116 => (if t116 = true then ((turn_Before.f a0 a1).bind fun t117 => ((turn_Before.f a1 a0).bind fun t118 => (if a0 = a1 then (turnspitlaw03_TurnOne.j0 k a0 a1 t116 t117 t118 true) else (turnspitlaw03_TurnOne.j0 k a0 a1 t116 t117 t118 ((IntKind.u64.wrap (a0 - a1)) == 9223372036854775808))))) else (some false))
theorem turnspitlaw03_TurnOne.mono_l : ∀ k, (∀ y0 y1 y2 y3 y4 y5, LeO (turnspitlaw03_TurnOne.j0 k y0 y1 y2 y3 y4 y5) (turnspitlaw03_TurnOne.j0 (k + 1) y0 y1 y2 y3 y4 y5)) ∧ (∀ y0 y1 y2 y3 y4 y5, LeO (turnspitlaw03_TurnOne.j1 k y0 y1 y2 y3 y4 y5) (turnspitlaw03_TurnOne.j1 (k + 1) y0 y1 y2 y3 y4 y5))
  | 0 => ⟨fun _ _ _ _ _ _ r h => by simp [turnspitlaw03_TurnOne.j0] at h, fun _ _ _ _ _ _ r h => by simp [turnspitlaw03_TurnOne.j1] at h⟩
  | k + 1 => by
    obtain ⟨ih0, ih1⟩ := turnspitlaw03_TurnOne.mono_l k
    refine ⟨?_, ?_⟩
    · intro y0 y1 y2 y3 y4 y5
      unfold turnspitlaw03_TurnOne.j0
      repeat' first
      | (with_reducible exact ih0 _ _ _ _ _ _)
      | (with_reducible exact ih1 _ _ _ _ _ _)
      | (with_reducible exact LeO.refl _)
      | (with_reducible exact LeO.none _)
      | (with_reducible refine LeO.ite ?_ ?_)
      | (with_reducible refine LeO.bind ?_ (fun _ => ?_))
      | exact ih0 _ _ _ _ _ _
      | exact ih1 _ _ _ _ _ _
      | exact LeO.none _
      | refine LeO.ite ?_ ?_
      | refine LeO.bind ?_ (fun _ => ?_)
    · intro y0 y1 y2 y3 y4 y5
      unfold turnspitlaw03_TurnOne.j1
      repeat' first
      | (with_reducible exact ih0 _ _ _ _ _ _)
      | (with_reducible exact ih1 _ _ _ _ _ _)
      | (with_reducible exact LeO.refl _)
      | (with_reducible exact LeO.none _)
      | (with_reducible refine LeO.ite ?_ ?_)
      | (with_reducible refine LeO.bind ?_ (fun _ => ?_))
      | exact ih0 _ _ _ _ _ _
      | exact ih1 _ _ _ _ _ _
      | exact LeO.none _
      | refine LeO.ite ?_ ?_
      | refine LeO.bind ?_ (fun _ => ?_)
theorem turnspitlaw03_TurnOne.mono : ∀ a0 a1 k, LeO (turnspitlaw03_TurnOne.f k a0 a1) (turnspitlaw03_TurnOne.f (k + 1) a0 a1) := by
  intro a0 a1 k
  obtain ⟨ih0, ih1⟩ := turnspitlaw03_TurnOne.mono_l k
  unfold turnspitlaw03_TurnOne.f
  repeat' first
      | (with_reducible exact ih0 _ _ _ _ _ _)
      | (with_reducible exact ih1 _ _ _ _ _ _)
      | (with_reducible exact LeO.refl _)
      | (with_reducible exact LeO.none _)
      | (with_reducible refine LeO.ite ?_ ?_)
      | (with_reducible refine LeO.bind ?_ (fun _ => ?_))
      | exact ih0 _ _ _ _ _ _
      | exact ih1 _ _ _ _ _ _
      | exact LeO.none _
      | refine LeO.ite ?_ ?_
      | refine LeO.bind ?_ (fun _ => ?_)
set_option maxHeartbeats 8000000 in
set_option maxRecDepth 100000 in
theorem turnspitlaw03_TurnOne.calls (k : Nat) (a0 : Int) (a1 : Int) (r : Bool) (w : World) (h : turnspitlaw03_TurnOne.f k a0 a1 = some r) :
    Calls Try.prog 7 #[.int .u64 a0, .int .u64 a1] w fun e w' => e = .returned (.bool r) ∧ Drawn0 w w' := by
  have H : ((turnspitlaw03_awake.f).bind fun t116 => (if t116 = true then ((turn_Before.f a0 a1).bind fun t117 => ((turn_Before.f a1 a0).bind fun t118 => (if a0 = a1 then (turnspitlaw03_TurnOne.j0 k a0 a1 t116 t117 t118 true) else (turnspitlaw03_TurnOne.j0 k a0 a1 t116 t117 t118 ((IntKind.u64.wrap (a0 - a1)) == 9223372036854775808))))) else (some false))) = some r := h
  clear h
  replace H := Option.bind_eq_some_iff.mp H
  obtain ⟨t116, A30, H⟩ := H
  replace H : (if t116 = true then ((turn_Before.f a0 a1).bind fun t117 => ((turn_Before.f a1 a0).bind fun t118 => (if a0 = a1 then (turnspitlaw03_TurnOne.j0 k a0 a1 t116 t117 t118 true) else (turnspitlaw03_TurnOne.j0 k a0 a1 t116 t117 t118 ((IntKind.u64.wrap (a0 - a1)) == 9223372036854775808))))) else (some false)) = some r := H
  have A3 := Aside0.mk A30
  clear A30
  by_cases c4 : t116 = true
  · subst c4
    have H1 : ((turn_Before.f a0 a1).bind fun t117 => ((turn_Before.f a1 a0).bind fun t118 => (if a0 = a1 then (turnspitlaw03_TurnOne.j0 k a0 a1 true t117 t118 true) else (turnspitlaw03_TurnOne.j0 k a0 a1 true t117 t118 ((IntKind.u64.wrap (a0 - a1)) == 9223372036854775808))))) = some r := by rw [if_pos rfl] at H; exact H
    clear H
    have H := H1
    clear H1
    replace H := Option.bind_eq_some_iff.mp H
    obtain ⟨t117, A50, H⟩ := H
    replace H : ((turn_Before.f a1 a0).bind fun t118 => (if a0 = a1 then (turnspitlaw03_TurnOne.j0 k a0 a1 true t117 t118 true) else (turnspitlaw03_TurnOne.j0 k a0 a1 true t117 t118 ((IntKind.u64.wrap (a0 - a1)) == 9223372036854775808)))) = some r := H
    have A5 := Aside0.mk A50
    clear A50
    replace H := Option.bind_eq_some_iff.mp H
    obtain ⟨t118, A60, H⟩ := H
    replace H : (if a0 = a1 then (turnspitlaw03_TurnOne.j0 k a0 a1 true t117 t118 true) else (turnspitlaw03_TurnOne.j0 k a0 a1 true t117 t118 ((IntKind.u64.wrap (a0 - a1)) == 9223372036854775808))) = some r := H
    have A6 := Aside0.mk A60
    clear A60
    have HC7 := Aside0.mk H
    clear H
    go_enter Try.func7, Try.ntmps7
    go_upto_region 5 with (first | ((with_reducible refine gate_callee (f := 16) rfl ?_); refine goesL_ (some 11) rfl rfl Try.func16 (by kernel_rfl) rfl #[] rfl (by (try simp only [List.map_toArray, List.map_cons, List.map_nil]); first | done | rfl | (simp only [List.length_drop, List.length_take]; rfl)) ?_; (with_reducible refine (turnspitlaw03_awake.calls  true _ A3.out).mono ?_); rintro e w' ⟨rfl, ⟨nd, rfl⟩⟩; refine ⟨_, rfl, ?_⟩) | ((with_reducible refine gate_callee (f := 10) rfl ?_); refine goesL_ (some 16) rfl rfl Try.func10 (by kernel_rfl) rfl #[.int .u64 a0, .int .u64 a1] rfl (by (try simp only [List.map_toArray, List.map_cons, List.map_nil]); first | done | rfl | (simp only [List.length_drop, List.length_take]; rfl)) ?_; (with_reducible refine (turn_Before.calls a0 a1 t117 _ A5.out).mono ?_); rintro e w' ⟨rfl, ⟨nd, rfl⟩⟩; refine ⟨_, rfl, ?_⟩) | ((with_reducible refine gate_callee (f := 10) rfl ?_); refine goesL_ (some 19) rfl rfl Try.func10 (by kernel_rfl) rfl #[.int .u64 a1, .int .u64 a0] rfl (by (try simp only [List.map_toArray, List.map_cons, List.map_nil]); first | done | rfl | (simp only [List.length_drop, List.length_take]; rfl)) ?_; (with_reducible refine (turn_Before.calls a1 a0 t118 _ A6.out).mono ?_); rintro e w' ⟨rfl, ⟨nd, rfl⟩⟩; refine ⟨_, rfl, ?_⟩))
    (try simp only [Act.put, List.setIfInBounds_toArray, List.set_cons_zero, List.set_cons_succ])
    go_cut [8] (fun v8 wc => ∃ (kq : Nat) (x8_6 : Bool), v8 = .bool x8_6 ∧ Aside0 (turnspitlaw03_TurnOne.j0 kq a0 a1 true t117 t118 x8_6 = some r) ∧ Aside0 (kq ≤ k) ∧ Drawn0 w wc)
    case first =>
      have H := HC7.out
      clear HC7
      by_cases c8 : a0 = a1
      · rw [if_pos c8] at H
        have c8b0 : (a0 == a1) = true := beq_iff_eq.mpr c8
        have c8b1 : (a0 != a1) = false := bne_eq_false_iff_eq.mpr c8
        clear c8
        (first | rw [c8b0] | (simp only [i64_w, i32_w]; rw [c8b0]) | skip)
        have H' := Aside0.mk H
        clear H
        go_wp2
        go_meet
        case rel => exact ⟨_, (true), (by first | rfl | (simp; done) | (simp [*]; done)), H', ⟨by first | omega | exact Nat.le_refl _⟩, by repeat (first | exact Drawn0.refl _ | apply Drawn0.step)⟩
      · rw [if_neg c8] at H
        have c8b0 : (a0 == a1) = false := beq_eq_false_iff_ne.mpr c8
        have c8b1 : (a0 != a1) = true := bne_iff_ne.mpr c8
        (first | rw [c8b0] | (simp only [i64_w, i32_w]; rw [c8b0]) | skip)
        have H' := Aside0.mk H
        clear H
        go_wp2
        go_meet
        case rel => exact ⟨_, (((IntKind.u64.wrap (a0 - a1)) == 9223372036854775808)), (by first | rfl | (simp; done) | (simp [*]; done)), H', ⟨by first | omega | exact Nat.le_refl _⟩, by repeat (first | exact Drawn0.refl _ | apply Drawn0.step)⟩
    case rest =>
      clear HC7
      try clear c1
      try clear p2
      try clear c4
      try clear c7
      try clear c8
      try clear c8b0
      try clear c8b1
      obtain ⟨kq, x8_6, rfl, HA, HJ6, ⟨mc6, rfl⟩⟩ := hcut
      cases kq with
      | zero => exact absurd HA.out (by simp [turnspitlaw03_TurnOne.j0])
      | succ kj6 =>
        have H := HA.out
        clear HA
        simp only [turnspitlaw03_TurnOne.j0] at H
        replace H := Option.bind_eq_some_iff.mp H
        obtain ⟨t119, A90, H⟩ := H
        replace H : ((turn_Earlier.f a0 a1).bind fun t120 => (if t117 = true then (if t118 = true then (turnspitlaw03_TurnOne.j1 kj6 a0 a1 true t119 t120 true) else (turnspitlaw03_TurnOne.j1 kj6 a0 a1 true t119 t120 (x8_6 == true))) else (turnspitlaw03_TurnOne.j1 kj6 a0 a1 true t119 t120 (x8_6 == t118)))) = some r := H
        have A9 := Aside0.mk A90
        clear A90
        replace H := Option.bind_eq_some_iff.mp H
        obtain ⟨t120, A100, H⟩ := H
        replace H : (if t117 = true then (if t118 = true then (turnspitlaw03_TurnOne.j1 kj6 a0 a1 true t119 t120 true) else (turnspitlaw03_TurnOne.j1 kj6 a0 a1 true t119 t120 (x8_6 == true))) else (turnspitlaw03_TurnOne.j1 kj6 a0 a1 true t119 t120 (x8_6 == t118))) = some r := H
        have A10 := Aside0.mk A100
        clear A100
        have HC11 := Aside0.mk H
        clear H
        go_upto_region 7 with (first | ((with_reducible refine gate_callee (f := 12) rfl ?_); refine goesL_ (some 31) rfl rfl Try.func12 (by kernel_rfl) rfl #[.int .u64 a0, .int .u64 a1] rfl (by (try simp only [List.map_toArray, List.map_cons, List.map_nil]); first | done | rfl | (simp only [List.length_drop, List.length_take]; rfl)) ?_; (with_reducible refine (turn_Later.calls a0 a1 t119 _ A9.out).mono ?_); rintro e w' ⟨rfl, ⟨nd, rfl⟩⟩; refine ⟨_, rfl, ?_⟩) | ((with_reducible refine gate_callee (f := 14) rfl ?_); refine goesL_ (some 34) rfl rfl Try.func14 (by kernel_rfl) rfl #[.int .u64 a0, .int .u64 a1] rfl (by (try simp only [List.map_toArray, List.map_cons, List.map_nil]); first | done | rfl | (simp only [List.length_drop, List.length_take]; rfl)) ?_; (with_reducible refine (turn_Earlier.calls a0 a1 t120 _ A10.out).mono ?_); rintro e w' ⟨rfl, ⟨nd, rfl⟩⟩; refine ⟨_, rfl, ?_⟩))
        (try simp only [Act.put, List.setIfInBounds_toArray, List.set_cons_zero, List.set_cons_succ])
        go_cut [46] (fun v46 wc => ∃ (kq : Nat) (x46_10 : Bool), v46 = .bool x46_10 ∧ Aside0 (turnspitlaw03_TurnOne.j1 kq a0 a1 true t119 t120 x46_10 = some r) ∧ Aside0 (kq ≤ kj6) ∧ Drawn0 w wc)
        case first =>
          have H := HC11.out
          clear HC11
          by_cases c12 : t117 = true
          · subst c12
            have H1 : (if t118 = true then (turnspitlaw03_TurnOne.j1 kj6 a0 a1 true t119 t120 true) else (turnspitlaw03_TurnOne.j1 kj6 a0 a1 true t119 t120 (x8_6 == true))) = some r := by rw [if_pos rfl] at H; exact H
            clear H
            have H := H1
            clear H1
            by_cases c13 : t118 = true
            · subst c13
              have H1 : (turnspitlaw03_TurnOne.j1 kj6 a0 a1 true t119 t120 true) = some r := by rw [if_pos rfl] at H; exact H
              clear H
              have H := H1
              clear H1
              have H' := Aside0.mk H
              clear H
              go_wp2
              go_meet
              case rel => exact ⟨_, (true), (by first | rfl | (simp; done) | (simp [*]; done)), H', ⟨by have := HJ6.out; first | omega | exact Nat.le_refl _⟩, by repeat (first | exact Drawn0.refl _ | apply Drawn0.step)⟩
            · replace c13 := Bool.eq_false_iff.mpr c13
              subst c13
              have H1 : (turnspitlaw03_TurnOne.j1 kj6 a0 a1 true t119 t120 (x8_6 == true)) = some r := by rw [if_neg (show ¬ (false = true) by decide)] at H; exact H
              clear H
              have H := H1
              clear H1
              have H' := Aside0.mk H
              clear H
              go_wp2
              go_meet
              case rel => exact ⟨_, ((x8_6 == true)), (by first | rfl | (simp; done) | (simp [*]; done)), H', ⟨by have := HJ6.out; first | omega | exact Nat.le_refl _⟩, by repeat (first | exact Drawn0.refl _ | apply Drawn0.step)⟩
          · replace c12 := Bool.eq_false_iff.mpr c12
            subst c12
            have H1 : (turnspitlaw03_TurnOne.j1 kj6 a0 a1 true t119 t120 (x8_6 == t118)) = some r := by rw [if_neg (show ¬ (false = true) by decide)] at H; exact H
            clear H
            have H := H1
            clear H1
            have H' := Aside0.mk H
            clear H
            go_wp2
            go_meet
            case rel => exact ⟨_, ((x8_6 == t118)), (by first | rfl | (simp; done) | (simp [*]; done)), H', ⟨by have := HJ6.out; first | omega | exact Nat.le_refl _⟩, by repeat (first | exact Drawn0.refl _ | apply Drawn0.step)⟩
        case rest =>
          clear HC11
          try clear c1
          try clear p2
          try clear c4
          try clear c6
          try clear c7
          try clear c8
          try clear c8b0
          try clear c8b1
          try clear c10
          try clear c12
          try clear c13
          try clear p2
          obtain ⟨kq, x46_10, rfl, HA, HJ10, ⟨mc10, rfl⟩⟩ := hcut
          cases kq with
          | zero => exact absurd HA.out (by simp [turnspitlaw03_TurnOne.j1])
          | succ kj10 =>
            have H := HA.out
            clear HA
            simp only [turnspitlaw03_TurnOne.j1] at H
            by_cases c14 : x46_10 = true
            · subst c14
              have H1 : (some false) = some r := by rw [if_pos rfl] at H; exact H
              clear H
              have H := H1
              clear H1
              obtain rfl := Option.some.inj H
              go_wp2
              go_ret
              exact ⟨by first | rfl | (simp; done) | (simp [*]; done), by repeat (first | exact Drawn0.refl _ | apply Drawn0.step)⟩
            · replace c14 := Bool.eq_false_iff.mpr c14
              subst c14
              have H1 : (if true = true then (if t119 = a0 then (if t120 = a0 then ((turn_Before.f t119 a0).bind fun t121 => (if t121 = true then (some false) else ((turn_Before.f t119 a1).bind fun t122 => (if t122 = true then (some false) else ((turn_Before.f a0 t120).bind fun t123 => (if t123 = true then (some false) else ((turn_Before.f a1 t120).bind fun t124 => (some (!t124))))))))) else (if t120 = a1 then ((turn_Before.f t119 a0).bind fun t125 => (if t125 = true then (some false) else ((turn_Before.f t119 a1).bind fun t126 => (if t126 = true then (some false) else ((turn_Before.f a0 t120).bind fun t127 => (if t127 = true then (some false) else ((turn_Before.f a1 t120).bind fun t128 => (some (!t128))))))))) else (some false))) else (if t119 = a1 then (if t120 = a0 then ((turn_Before.f t119 a0).bind fun t129 => (if t129 = true then (some false) else ((turn_Before.f t119 a1).bind fun t130 => (if t130 = true then (some false) else ((turn_Before.f a0 t120).bind fun t131 => (if t131 = true then (some false) else ((turn_Before.f a1 t120).bind fun t132 => (some (!t132))))))))) else (if t120 = a1 then ((turn_Before.f t119 a0).bind fun t133 => (if t133 = true then (some false) else ((turn_Before.f t119 a1).bind fun t134 => (if t134 = true then (some false) else ((turn_Before.f a0 t120).bind fun t135 => (if t135 = true then (some false) else ((turn_Before.f a1 t120).bind fun t136 => (some (!t136))))))))) else (some false))) else (some false))) else (some false)) = some r := by rw [if_neg (show ¬ (false = true) by decide)] at H; exact H
              clear H
              have H := H1
              clear H1
              by_cases c15 : true = true
              · clear c15
                have H1 : (if t119 = a0 then (if t120 = a0 then ((turn_Before.f t119 a0).bind fun t121 => (if t121 = true then (some false) else ((turn_Before.f t119 a1).bind fun t122 => (if t122 = true then (some false) else ((turn_Before.f a0 t120).bind fun t123 => (if t123 = true then (some false) else ((turn_Before.f a1 t120).bind fun t124 => (some (!t124))))))))) else (if t120 = a1 then ((turn_Before.f t119 a0).bind fun t125 => (if t125 = true then (some false) else ((turn_Before.f t119 a1).bind fun t126 => (if t126 = true then (some false) else ((turn_Before.f a0 t120).bind fun t127 => (if t127 = true then (some false) else ((turn_Before.f a1 t120).bind fun t128 => (some (!t128))))))))) else (some false))) else (if t119 = a1 then (if t120 = a0 then ((turn_Before.f t119 a0).bind fun t129 => (if t129 = true then (some false) else ((turn_Before.f t119 a1).bind fun t130 => (if t130 = true then (some false) else ((turn_Before.f a0 t120).bind fun t131 => (if t131 = true then (some false) else ((turn_Before.f a1 t120).bind fun t132 => (some (!t132))))))))) else (if t120 = a1 then ((turn_Before.f t119 a0).bind fun t133 => (if t133 = true then (some false) else ((turn_Before.f t119 a1).bind fun t134 => (if t134 = true then (some false) else ((turn_Before.f a0 t120).bind fun t135 => (if t135 = true then (some false) else ((turn_Before.f a1 t120).bind fun t136 => (some (!t136))))))))) else (some false))) else (some false))) = some r := by rw [if_pos rfl] at H; exact H
                clear H
                have H := H1
                clear H1
                by_cases c16 : t119 = a0
                · rw [if_pos c16] at H
                  have c16b0 : (t119 == a0) = true := beq_iff_eq.mpr c16
                  have c16b1 : (t119 != a0) = false := bne_eq_false_iff_eq.mpr c16
                  clear c16
                  by_cases c17 : t120 = a0
                  · rw [if_pos c17] at H
                    have c17b0 : (t120 == a0) = true := beq_iff_eq.mpr c17
                    have c17b1 : (t120 != a0) = false := bne_eq_false_iff_eq.mpr c17
                    clear c17
                    replace H := Option.bind_eq_some_iff.mp H
                    obtain ⟨t121, A180, H⟩ := H
                    replace H : (if t121 = true then (some false) else ((turn_Before.f t119 a1).bind fun t122 => (if t122 = true then (some false) else ((turn_Before.f a0 t120).bind fun t123 => (if t123 = true then (some false) else ((turn_Before.f a1 t120).bind fun t124 => (some (!t124)))))))) = some r := H
                    have A18 := Aside0.mk A180
                    clear A180
                    by_cases c19 : t121 = true
                    · subst c19
                      have H1 : (some false) = some r := by rw [if_pos rfl] at H; exact H
                      clear H
                      have H := H1
                      clear H1
                      obtain rfl := Option.some.inj H
                      go_wp2_with (first | (go_at_call 10; (with_reducible refine (turn_Before.calls t119 a0 true _ A18.out).mono ?_); rintro e w' ⟨rfl, ⟨nd, rfl⟩⟩))
                      go_ret
                      exact ⟨by first | rfl | (simp; done) | (simp [*]; done), by repeat (first | exact Drawn0.refl _ | apply Drawn0.step)⟩
                    · replace c19 := Bool.eq_false_iff.mpr c19
                      subst c19
                      have H1 : ((turn_Before.f t119 a1).bind fun t122 => (if t122 = true then (some false) else ((turn_Before.f a0 t120).bind fun t123 => (if t123 = true then (some false) else ((turn_Before.f a1 t120).bind fun t124 => (some (!t124))))))) = some r := by rw [if_neg (show ¬ (false = true) by decide)] at H; exact H
                      clear H
                      have H := H1
                      clear H1
                      replace H := Option.bind_eq_some_iff.mp H
                      obtain ⟨t122, A200, H⟩ := H
                      replace H : (if t122 = true then (some false) else ((turn_Before.f a0 t120).bind fun t123 => (if t123 = true then (some false) else ((turn_Before.f a1 t120).bind fun t124 => (some (!t124)))))) = some r := H
                      have A20 := Aside0.mk A200
                      clear A200
                      by_cases c21 : t122 = true
                      · subst c21
                        have H1 : (some false) = some r := by rw [if_pos rfl] at H; exact H
                        clear H
                        have H := H1
                        clear H1
                        obtain rfl := Option.some.inj H
                        go_wp2_with (first | (go_at_call 10; (with_reducible refine (turn_Before.calls t119 a0 false _ A18.out).mono ?_); rintro e w' ⟨rfl, ⟨nd, rfl⟩⟩) | (go_at_call 10; (with_reducible refine (turn_Before.calls t119 a1 true _ A20.out).mono ?_); rintro e w' ⟨rfl, ⟨nd, rfl⟩⟩))
                        go_ret
                        exact ⟨by first | rfl | (simp; done) | (simp [*]; done), by repeat (first | exact Drawn0.refl _ | apply Drawn0.step)⟩
                      · replace c21 := Bool.eq_false_iff.mpr c21
                        subst c21
                        have H1 : ((turn_Before.f a0 t120).bind fun t123 => (if t123 = true then (some false) else ((turn_Before.f a1 t120).bind fun t124 => (some (!t124))))) = some r := by rw [if_neg (show ¬ (false = true) by decide)] at H; exact H
                        clear H
                        have H := H1
                        clear H1
                        replace H := Option.bind_eq_some_iff.mp H
                        obtain ⟨t123, A220, H⟩ := H
                        replace H : (if t123 = true then (some false) else ((turn_Before.f a1 t120).bind fun t124 => (some (!t124)))) = some r := H
                        have A22 := Aside0.mk A220
                        clear A220
                        by_cases c23 : t123 = true
                        · subst c23
                          have H1 : (some false) = some r := by rw [if_pos rfl] at H; exact H
                          clear H
                          have H := H1
                          clear H1
                          obtain rfl := Option.some.inj H
                          go_wp2_with (first | (go_at_call 10; (with_reducible refine (turn_Before.calls t119 a0 false _ A18.out).mono ?_); rintro e w' ⟨rfl, ⟨nd, rfl⟩⟩) | (go_at_call 10; (with_reducible refine (turn_Before.calls t119 a1 false _ A20.out).mono ?_); rintro e w' ⟨rfl, ⟨nd, rfl⟩⟩) | (go_at_call 10; (with_reducible refine (turn_Before.calls a0 t120 true _ A22.out).mono ?_); rintro e w' ⟨rfl, ⟨nd, rfl⟩⟩))
                          go_ret
                          exact ⟨by first | rfl | (simp; done) | (simp [*]; done), by repeat (first | exact Drawn0.refl _ | apply Drawn0.step)⟩
                        · replace c23 := Bool.eq_false_iff.mpr c23
                          subst c23
                          have H1 : ((turn_Before.f a1 t120).bind fun t124 => (some (!t124))) = some r := by rw [if_neg (show ¬ (false = true) by decide)] at H; exact H
                          clear H
                          have H := H1
                          clear H1
                          replace H := Option.bind_eq_some_iff.mp H
                          obtain ⟨t124, A240, H⟩ := H
                          replace H : (some (!t124)) = some r := H
                          have A24 := Aside0.mk A240
                          clear A240
                          obtain rfl := Option.some.inj H
                          go_wp2_with (first | (go_at_call 10; (with_reducible refine (turn_Before.calls t119 a0 false _ A18.out).mono ?_); rintro e w' ⟨rfl, ⟨nd, rfl⟩⟩) | (go_at_call 10; (with_reducible refine (turn_Before.calls t119 a1 false _ A20.out).mono ?_); rintro e w' ⟨rfl, ⟨nd, rfl⟩⟩) | (go_at_call 10; (with_reducible refine (turn_Before.calls a0 t120 false _ A22.out).mono ?_); rintro e w' ⟨rfl, ⟨nd, rfl⟩⟩) | (go_at_call 10; (with_reducible refine (turn_Before.calls a1 t120 t124 _ A24.out).mono ?_); rintro e w' ⟨rfl, ⟨nd, rfl⟩⟩))
                          go_ret
                          exact ⟨by first | rfl | (simp; done) | (simp [*]; done), by repeat (first | exact Drawn0.refl _ | apply Drawn0.step)⟩
                  · rw [if_neg c17] at H
                    have c17b0 : (t120 == a0) = false := beq_eq_false_iff_ne.mpr c17
                    have c17b1 : (t120 != a0) = true := bne_iff_ne.mpr c17
                    by_cases c25 : t120 = a1
                    · rw [if_pos c25] at H
                      have c25b0 : (t120 == a1) = true := beq_iff_eq.mpr c25
                      have c25b1 : (t120 != a1) = false := bne_eq_false_iff_eq.mpr c25
                      clear c25
                      replace H := Option.bind_eq_some_iff.mp H
                      obtain ⟨t125, A260, H⟩ := H
                      replace H : (if t125 = true then (some false) else ((turn_Before.f t119 a1).bind fun t126 => (if t126 = true then (some false) else ((turn_Before.f a0 t120).bind fun t127 => (if t127 = true then (some false) else ((turn_Before.f a1 t120).bind fun t128 => (some (!t128)))))))) = some r := H
                      have A26 := Aside0.mk A260
                      clear A260
                      by_cases c27 : t125 = true
                      · subst c27
                        have H1 : (some false) = some r := by rw [if_pos rfl] at H; exact H
                        clear H
                        have H := H1
                        clear H1
                        obtain rfl := Option.some.inj H
                        go_wp2_with (first | (go_at_call 10; (with_reducible refine (turn_Before.calls t119 a0 true _ A26.out).mono ?_); rintro e w' ⟨rfl, ⟨nd, rfl⟩⟩))
                        go_ret
                        exact ⟨by first | rfl | (simp; done) | (simp [*]; done), by repeat (first | exact Drawn0.refl _ | apply Drawn0.step)⟩
                      · replace c27 := Bool.eq_false_iff.mpr c27
                        subst c27
                        have H1 : ((turn_Before.f t119 a1).bind fun t126 => (if t126 = true then (some false) else ((turn_Before.f a0 t120).bind fun t127 => (if t127 = true then (some false) else ((turn_Before.f a1 t120).bind fun t128 => (some (!t128))))))) = some r := by rw [if_neg (show ¬ (false = true) by decide)] at H; exact H
                        clear H
                        have H := H1
                        clear H1
                        replace H := Option.bind_eq_some_iff.mp H
                        obtain ⟨t126, A280, H⟩ := H
                        replace H : (if t126 = true then (some false) else ((turn_Before.f a0 t120).bind fun t127 => (if t127 = true then (some false) else ((turn_Before.f a1 t120).bind fun t128 => (some (!t128)))))) = some r := H
                        have A28 := Aside0.mk A280
                        clear A280
                        by_cases c29 : t126 = true
                        · subst c29
                          have H1 : (some false) = some r := by rw [if_pos rfl] at H; exact H
                          clear H
                          have H := H1
                          clear H1
                          obtain rfl := Option.some.inj H
                          go_wp2_with (first | (go_at_call 10; (with_reducible refine (turn_Before.calls t119 a0 false _ A26.out).mono ?_); rintro e w' ⟨rfl, ⟨nd, rfl⟩⟩) | (go_at_call 10; (with_reducible refine (turn_Before.calls t119 a1 true _ A28.out).mono ?_); rintro e w' ⟨rfl, ⟨nd, rfl⟩⟩))
                          go_ret
                          exact ⟨by first | rfl | (simp; done) | (simp [*]; done), by repeat (first | exact Drawn0.refl _ | apply Drawn0.step)⟩
                        · replace c29 := Bool.eq_false_iff.mpr c29
                          subst c29
                          have H1 : ((turn_Before.f a0 t120).bind fun t127 => (if t127 = true then (some false) else ((turn_Before.f a1 t120).bind fun t128 => (some (!t128))))) = some r := by rw [if_neg (show ¬ (false = true) by decide)] at H; exact H
                          clear H
                          have H := H1
                          clear H1
                          replace H := Option.bind_eq_some_iff.mp H
                          obtain ⟨t127, A300, H⟩ := H
                          replace H : (if t127 = true then (some false) else ((turn_Before.f a1 t120).bind fun t128 => (some (!t128)))) = some r := H
                          have A30 := Aside0.mk A300
                          clear A300
                          by_cases c31 : t127 = true
                          · subst c31
                            have H1 : (some false) = some r := by rw [if_pos rfl] at H; exact H
                            clear H
                            have H := H1
                            clear H1
                            obtain rfl := Option.some.inj H
                            go_wp2_with (first | (go_at_call 10; (with_reducible refine (turn_Before.calls t119 a0 false _ A26.out).mono ?_); rintro e w' ⟨rfl, ⟨nd, rfl⟩⟩) | (go_at_call 10; (with_reducible refine (turn_Before.calls t119 a1 false _ A28.out).mono ?_); rintro e w' ⟨rfl, ⟨nd, rfl⟩⟩) | (go_at_call 10; (with_reducible refine (turn_Before.calls a0 t120 true _ A30.out).mono ?_); rintro e w' ⟨rfl, ⟨nd, rfl⟩⟩))
                            go_ret
                            exact ⟨by first | rfl | (simp; done) | (simp [*]; done), by repeat (first | exact Drawn0.refl _ | apply Drawn0.step)⟩
                          · replace c31 := Bool.eq_false_iff.mpr c31
                            subst c31
                            have H1 : ((turn_Before.f a1 t120).bind fun t128 => (some (!t128))) = some r := by rw [if_neg (show ¬ (false = true) by decide)] at H; exact H
                            clear H
                            have H := H1
                            clear H1
                            replace H := Option.bind_eq_some_iff.mp H
                            obtain ⟨t128, A320, H⟩ := H
                            replace H : (some (!t128)) = some r := H
                            have A32 := Aside0.mk A320
                            clear A320
                            obtain rfl := Option.some.inj H
                            go_wp2_with (first | (go_at_call 10; (with_reducible refine (turn_Before.calls t119 a0 false _ A26.out).mono ?_); rintro e w' ⟨rfl, ⟨nd, rfl⟩⟩) | (go_at_call 10; (with_reducible refine (turn_Before.calls t119 a1 false _ A28.out).mono ?_); rintro e w' ⟨rfl, ⟨nd, rfl⟩⟩) | (go_at_call 10; (with_reducible refine (turn_Before.calls a0 t120 false _ A30.out).mono ?_); rintro e w' ⟨rfl, ⟨nd, rfl⟩⟩) | (go_at_call 10; (with_reducible refine (turn_Before.calls a1 t120 t128 _ A32.out).mono ?_); rintro e w' ⟨rfl, ⟨nd, rfl⟩⟩))
                            go_ret
                            exact ⟨by first | rfl | (simp; done) | (simp [*]; done), by repeat (first | exact Drawn0.refl _ | apply Drawn0.step)⟩
                    · rw [if_neg c25] at H
                      have c25b0 : (t120 == a1) = false := beq_eq_false_iff_ne.mpr c25
                      have c25b1 : (t120 != a1) = true := bne_iff_ne.mpr c25
                      obtain rfl := Option.some.inj H
                      go_wp2
                      go_ret
                      exact ⟨by first | rfl | (simp; done) | (simp [*]; done), by repeat (first | exact Drawn0.refl _ | apply Drawn0.step)⟩
                · rw [if_neg c16] at H
                  have c16b0 : (t119 == a0) = false := beq_eq_false_iff_ne.mpr c16
                  have c16b1 : (t119 != a0) = true := bne_iff_ne.mpr c16
                  by_cases c33 : t119 = a1
                  · rw [if_pos c33] at H
                    have c33b0 : (t119 == a1) = true := beq_iff_eq.mpr c33
                    have c33b1 : (t119 != a1) = false := bne_eq_false_iff_eq.mpr c33
                    clear c33
                    by_cases c34 : t120 = a0
                    · rw [if_pos c34] at H
                      have c34b0 : (t120 == a0) = true := beq_iff_eq.mpr c34
                      have c34b1 : (t120 != a0) = false := bne_eq_false_iff_eq.mpr c34
                      clear c34
                      replace H := Option.bind_eq_some_iff.mp H
                      obtain ⟨t129, A350, H⟩ := H
                      replace H : (if t129 = true then (some false) else ((turn_Before.f t119 a1).bind fun t130 => (if t130 = true then (some false) else ((turn_Before.f a0 t120).bind fun t131 => (if t131 = true then (some false) else ((turn_Before.f a1 t120).bind fun t132 => (some (!t132)))))))) = some r := H
                      have A35 := Aside0.mk A350
                      clear A350
                      by_cases c36 : t129 = true
                      · subst c36
                        have H1 : (some false) = some r := by rw [if_pos rfl] at H; exact H
                        clear H
                        have H := H1
                        clear H1
                        obtain rfl := Option.some.inj H
                        go_wp2_with (first | (go_at_call 10; (with_reducible refine (turn_Before.calls t119 a0 true _ A35.out).mono ?_); rintro e w' ⟨rfl, ⟨nd, rfl⟩⟩))
                        go_ret
                        exact ⟨by first | rfl | (simp; done) | (simp [*]; done), by repeat (first | exact Drawn0.refl _ | apply Drawn0.step)⟩
                      · replace c36 := Bool.eq_false_iff.mpr c36
                        subst c36
                        have H1 : ((turn_Before.f t119 a1).bind fun t130 => (if t130 = true then (some false) else ((turn_Before.f a0 t120).bind fun t131 => (if t131 = true then (some false) else ((turn_Before.f a1 t120).bind fun t132 => (some (!t132))))))) = some r := by rw [if_neg (show ¬ (false = true) by decide)] at H; exact H
                        clear H
                        have H := H1
                        clear H1
                        replace H := Option.bind_eq_some_iff.mp H
                        obtain ⟨t130, A370, H⟩ := H
                        replace H : (if t130 = true then (some false) else ((turn_Before.f a0 t120).bind fun t131 => (if t131 = true then (some false) else ((turn_Before.f a1 t120).bind fun t132 => (some (!t132)))))) = some r := H
                        have A37 := Aside0.mk A370
                        clear A370
                        by_cases c38 : t130 = true
                        · subst c38
                          have H1 : (some false) = some r := by rw [if_pos rfl] at H; exact H
                          clear H
                          have H := H1
                          clear H1
                          obtain rfl := Option.some.inj H
                          go_wp2_with (first | (go_at_call 10; (with_reducible refine (turn_Before.calls t119 a0 false _ A35.out).mono ?_); rintro e w' ⟨rfl, ⟨nd, rfl⟩⟩) | (go_at_call 10; (with_reducible refine (turn_Before.calls t119 a1 true _ A37.out).mono ?_); rintro e w' ⟨rfl, ⟨nd, rfl⟩⟩))
                          go_ret
                          exact ⟨by first | rfl | (simp; done) | (simp [*]; done), by repeat (first | exact Drawn0.refl _ | apply Drawn0.step)⟩
                        · replace c38 := Bool.eq_false_iff.mpr c38
                          subst c38
                          have H1 : ((turn_Before.f a0 t120).bind fun t131 => (if t131 = true then (some false) else ((turn_Before.f a1 t120).bind fun t132 => (some (!t132))))) = some r := by rw [if_neg (show ¬ (false = true) by decide)] at H; exact H
                          clear H
                          have H := H1
                          clear H1
                          replace H := Option.bind_eq_some_iff.mp H
                          obtain ⟨t131, A390, H⟩ := H
                          replace H : (if t131 = true then (some false) else ((turn_Before.f a1 t120).bind fun t132 => (some (!t132)))) = some r := H
                          have A39 := Aside0.mk A390
                          clear A390
                          by_cases c40 : t131 = true
                          · subst c40
                            have H1 : (some false) = some r := by rw [if_pos rfl] at H; exact H
                            clear H
                            have H := H1
                            clear H1
                            obtain rfl := Option.some.inj H
                            go_wp2_with (first | (go_at_call 10; (with_reducible refine (turn_Before.calls t119 a0 false _ A35.out).mono ?_); rintro e w' ⟨rfl, ⟨nd, rfl⟩⟩) | (go_at_call 10; (with_reducible refine (turn_Before.calls t119 a1 false _ A37.out).mono ?_); rintro e w' ⟨rfl, ⟨nd, rfl⟩⟩) | (go_at_call 10; (with_reducible refine (turn_Before.calls a0 t120 true _ A39.out).mono ?_); rintro e w' ⟨rfl, ⟨nd, rfl⟩⟩))
                            go_ret
                            exact ⟨by first | rfl | (simp; done) | (simp [*]; done), by repeat (first | exact Drawn0.refl _ | apply Drawn0.step)⟩
                          · replace c40 := Bool.eq_false_iff.mpr c40
                            subst c40
                            have H1 : ((turn_Before.f a1 t120).bind fun t132 => (some (!t132))) = some r := by rw [if_neg (show ¬ (false = true) by decide)] at H; exact H
                            clear H
                            have H := H1
                            clear H1
                            replace H := Option.bind_eq_some_iff.mp H
                            obtain ⟨t132, A410, H⟩ := H
                            replace H : (some (!t132)) = some r := H
                            have A41 := Aside0.mk A410
                            clear A410
                            obtain rfl := Option.some.inj H
                            go_wp2_with (first | (go_at_call 10; (with_reducible refine (turn_Before.calls t119 a0 false _ A35.out).mono ?_); rintro e w' ⟨rfl, ⟨nd, rfl⟩⟩) | (go_at_call 10; (with_reducible refine (turn_Before.calls t119 a1 false _ A37.out).mono ?_); rintro e w' ⟨rfl, ⟨nd, rfl⟩⟩) | (go_at_call 10; (with_reducible refine (turn_Before.calls a0 t120 false _ A39.out).mono ?_); rintro e w' ⟨rfl, ⟨nd, rfl⟩⟩) | (go_at_call 10; (with_reducible refine (turn_Before.calls a1 t120 t132 _ A41.out).mono ?_); rintro e w' ⟨rfl, ⟨nd, rfl⟩⟩))
                            go_ret
                            exact ⟨by first | rfl | (simp; done) | (simp [*]; done), by repeat (first | exact Drawn0.refl _ | apply Drawn0.step)⟩
                    · rw [if_neg c34] at H
                      have c34b0 : (t120 == a0) = false := beq_eq_false_iff_ne.mpr c34
                      have c34b1 : (t120 != a0) = true := bne_iff_ne.mpr c34
                      by_cases c42 : t120 = a1
                      · rw [if_pos c42] at H
                        have c42b0 : (t120 == a1) = true := beq_iff_eq.mpr c42
                        have c42b1 : (t120 != a1) = false := bne_eq_false_iff_eq.mpr c42
                        clear c42
                        replace H := Option.bind_eq_some_iff.mp H
                        obtain ⟨t133, A430, H⟩ := H
                        replace H : (if t133 = true then (some false) else ((turn_Before.f t119 a1).bind fun t134 => (if t134 = true then (some false) else ((turn_Before.f a0 t120).bind fun t135 => (if t135 = true then (some false) else ((turn_Before.f a1 t120).bind fun t136 => (some (!t136)))))))) = some r := H
                        have A43 := Aside0.mk A430
                        clear A430
                        by_cases c44 : t133 = true
                        · subst c44
                          have H1 : (some false) = some r := by rw [if_pos rfl] at H; exact H
                          clear H
                          have H := H1
                          clear H1
                          obtain rfl := Option.some.inj H
                          go_wp2_with (first | (go_at_call 10; (with_reducible refine (turn_Before.calls t119 a0 true _ A43.out).mono ?_); rintro e w' ⟨rfl, ⟨nd, rfl⟩⟩))
                          go_ret
                          exact ⟨by first | rfl | (simp; done) | (simp [*]; done), by repeat (first | exact Drawn0.refl _ | apply Drawn0.step)⟩
                        · replace c44 := Bool.eq_false_iff.mpr c44
                          subst c44
                          have H1 : ((turn_Before.f t119 a1).bind fun t134 => (if t134 = true then (some false) else ((turn_Before.f a0 t120).bind fun t135 => (if t135 = true then (some false) else ((turn_Before.f a1 t120).bind fun t136 => (some (!t136))))))) = some r := by rw [if_neg (show ¬ (false = true) by decide)] at H; exact H
                          clear H
                          have H := H1
                          clear H1
                          replace H := Option.bind_eq_some_iff.mp H
                          obtain ⟨t134, A450, H⟩ := H
                          replace H : (if t134 = true then (some false) else ((turn_Before.f a0 t120).bind fun t135 => (if t135 = true then (some false) else ((turn_Before.f a1 t120).bind fun t136 => (some (!t136)))))) = some r := H
                          have A45 := Aside0.mk A450
                          clear A450
                          by_cases c46 : t134 = true
                          · subst c46
                            have H1 : (some false) = some r := by rw [if_pos rfl] at H; exact H
                            clear H
                            have H := H1
                            clear H1
                            obtain rfl := Option.some.inj H
                            go_wp2_with (first | (go_at_call 10; (with_reducible refine (turn_Before.calls t119 a0 false _ A43.out).mono ?_); rintro e w' ⟨rfl, ⟨nd, rfl⟩⟩) | (go_at_call 10; (with_reducible refine (turn_Before.calls t119 a1 true _ A45.out).mono ?_); rintro e w' ⟨rfl, ⟨nd, rfl⟩⟩))
                            go_ret
                            exact ⟨by first | rfl | (simp; done) | (simp [*]; done), by repeat (first | exact Drawn0.refl _ | apply Drawn0.step)⟩
                          · replace c46 := Bool.eq_false_iff.mpr c46
                            subst c46
                            have H1 : ((turn_Before.f a0 t120).bind fun t135 => (if t135 = true then (some false) else ((turn_Before.f a1 t120).bind fun t136 => (some (!t136))))) = some r := by rw [if_neg (show ¬ (false = true) by decide)] at H; exact H
                            clear H
                            have H := H1
                            clear H1
                            replace H := Option.bind_eq_some_iff.mp H
                            obtain ⟨t135, A470, H⟩ := H
                            replace H : (if t135 = true then (some false) else ((turn_Before.f a1 t120).bind fun t136 => (some (!t136)))) = some r := H
                            have A47 := Aside0.mk A470
                            clear A470
                            by_cases c48 : t135 = true
                            · subst c48
                              have H1 : (some false) = some r := by rw [if_pos rfl] at H; exact H
                              clear H
                              have H := H1
                              clear H1
                              obtain rfl := Option.some.inj H
                              go_wp2_with (first | (go_at_call 10; (with_reducible refine (turn_Before.calls t119 a0 false _ A43.out).mono ?_); rintro e w' ⟨rfl, ⟨nd, rfl⟩⟩) | (go_at_call 10; (with_reducible refine (turn_Before.calls t119 a1 false _ A45.out).mono ?_); rintro e w' ⟨rfl, ⟨nd, rfl⟩⟩) | (go_at_call 10; (with_reducible refine (turn_Before.calls a0 t120 true _ A47.out).mono ?_); rintro e w' ⟨rfl, ⟨nd, rfl⟩⟩))
                              go_ret
                              exact ⟨by first | rfl | (simp; done) | (simp [*]; done), by repeat (first | exact Drawn0.refl _ | apply Drawn0.step)⟩
                            · replace c48 := Bool.eq_false_iff.mpr c48
                              subst c48
                              have H1 : ((turn_Before.f a1 t120).bind fun t136 => (some (!t136))) = some r := by rw [if_neg (show ¬ (false = true) by decide)] at H; exact H
                              clear H
                              have H := H1
                              clear H1
                              replace H := Option.bind_eq_some_iff.mp H
                              obtain ⟨t136, A490, H⟩ := H
                              replace H : (some (!t136)) = some r := H
                              have A49 := Aside0.mk A490
                              clear A490
                              obtain rfl := Option.some.inj H
                              go_wp2_with (first | (go_at_call 10; (with_reducible refine (turn_Before.calls t119 a0 false _ A43.out).mono ?_); rintro e w' ⟨rfl, ⟨nd, rfl⟩⟩) | (go_at_call 10; (with_reducible refine (turn_Before.calls t119 a1 false _ A45.out).mono ?_); rintro e w' ⟨rfl, ⟨nd, rfl⟩⟩) | (go_at_call 10; (with_reducible refine (turn_Before.calls a0 t120 false _ A47.out).mono ?_); rintro e w' ⟨rfl, ⟨nd, rfl⟩⟩) | (go_at_call 10; (with_reducible refine (turn_Before.calls a1 t120 t136 _ A49.out).mono ?_); rintro e w' ⟨rfl, ⟨nd, rfl⟩⟩))
                              go_ret
                              exact ⟨by first | rfl | (simp; done) | (simp [*]; done), by repeat (first | exact Drawn0.refl _ | apply Drawn0.step)⟩
                      · rw [if_neg c42] at H
                        have c42b0 : (t120 == a1) = false := beq_eq_false_iff_ne.mpr c42
                        have c42b1 : (t120 != a1) = true := bne_iff_ne.mpr c42
                        obtain rfl := Option.some.inj H
                        go_wp2
                        go_ret
                        exact ⟨by first | rfl | (simp; done) | (simp [*]; done), by repeat (first | exact Drawn0.refl _ | apply Drawn0.step)⟩
                  · rw [if_neg c33] at H
                    have c33b0 : (t119 == a1) = false := beq_eq_false_iff_ne.mpr c33
                    have c33b1 : (t119 != a1) = true := bne_iff_ne.mpr c33
                    obtain rfl := Option.some.inj H
                    go_wp2
                    go_ret
                    exact ⟨by first | rfl | (simp; done) | (simp [*]; done), by repeat (first | exact Drawn0.refl _ | apply Drawn0.step)⟩
              · exact absurd rfl c15
  · replace c4 := Bool.eq_false_iff.mpr c4
    subst c4
    have H1 : (some false) = some r := by rw [if_neg (show ¬ (false = true) by decide)] at H; exact H
    clear H
    have H := H1
    clear H1
    obtain rfl := Option.some.inj H
    go_enter Try.func7, Try.ntmps7
    go_wp2_with (first | ((with_reducible refine gate_callee (f := 16) rfl ?_); refine goesL_ (some 11) rfl rfl Try.func16 (by kernel_rfl) rfl #[] rfl (by (try simp only [List.map_toArray, List.map_cons, List.map_nil]); first | done | rfl | (simp only [List.length_drop, List.length_take]; rfl)) ?_; (with_reducible refine (turnspitlaw03_awake.calls  false _ A3.out).mono ?_); rintro e w' ⟨rfl, ⟨nd, rfl⟩⟩; refine ⟨_, rfl, ?_⟩))
    go_ret
    exact ⟨by first | rfl | (simp; done) | (simp [*]; done), by repeat (first | exact Drawn0.refl _ | apply Drawn0.step)⟩

/-- THE ONE PURE STATEMENT of turnspitlaw03_TurnOne: yours. -/
def turnspitlaw03_TurnOne.Pure : Prop := ∀ (a0 : Int) (a1 : Int), (Lit.int .u64 a0).wf = true → (Lit.int .u64 a1).wf = true → ∃ k, turnspitlaw03_TurnOne.f k a0 a1 = some true
theorem turnspitlaw03_TurnOne.walk (P : turnspitlaw03_TurnOne.Pure) (a0 : Int) (a1 : Int) (w : World) (w0 : (Lit.int .u64 a0).wf = true) (w1 : (Lit.int .u64 a1).wf = true) :
    Calls Try.prog 7 #[.int .u64 a0, .int .u64 a1] w fun e w' => e = .returned (.bool true) ∧ Below w.heap.size w w' := by
  obtain ⟨k, h⟩ := P a0 a1 w0 w1
  refine (turnspitlaw03_TurnOne.calls k a0 a1 true w h).mono ?_
  rintro e w' ⟨rfl, hd⟩
  exact ⟨rfl, hd.below⟩

end Go.Proofs.Ytigakimfoanonaa.QTurnOne
