/- Go functions of the program, each as a function of Lean with the proof that the Go text comes to its answers; no condition. Written by a program of this session. -/
import Derived.Test.YtfapmcpmfeigbaaDoorQTreeHoldsx0
import Derived.Test.YtfapmcpmfeigbaaDoorQTreeHoldsx4
namespace Go.Proofs.YtfapmcpmfeigbaaDoor.QTreeHolds
open Go.RowKit Go.Proofs.YtfapmcpmfeigbaaDoorW.PrintWords Go.Proofs.YtfapmcpmfeigbaaDoorW.PrintLast Go.Proofs.YtfapmcpmfeigbaaDoorW.PrintMore
attribute [local go_sem] max2_int min2_int max_two min_two max_three min_three max_four min_four   -- for this text's walks alone
set_option linter.unusedVariables false
set_option linter.unusedSimpArgs false
set_option linter.unnecessarySimpa false

/-! ### turnspitref08_at: function 64 -/
def turnspitref08_at.l0 : Nat → List (S27) → Int → Int → Option (Int)
 | 0, _, _, _ => none
 | k + 1, x0, x1, x5 => if x5 < (x0.length : Int) then (if 0 ≤ x5 then (if ((rd_T27 x0 x5).f1) = x1 then (some x5) else (turnspitref08_at.l0 k x0 x1 (wrap64 (x5 + 1)))) else (none)) else (some (-1))
def turnspitref08_at.f (k : Nat) (l0 : List (S27)) (a1 : Int) : Option (Int) := turnspitref08_at.l0 k l0 a1 0
theorem turnspitref08_at.mono_l : ∀ k, (∀ y0 y1 y2, LeO (turnspitref08_at.l0 k y0 y1 y2) (turnspitref08_at.l0 (k + 1) y0 y1 y2))
 | 0 => fun _ _ _ r h => by simp [turnspitref08_at.l0] at h
 | k + 1 => by
  have ih0 := turnspitref08_at.mono_l k
  ·intro y0 y1 y2
   unfold turnspitref08_at.l0
   repeat' first
   | (with_reducible exact ih0 _ _ _)
   | (with_reducible exact LeO.refl _)
   | (with_reducible exact LeO.none _)
   | (with_reducible refine LeO.ite ?_ ?_)
   | (with_reducible refine LeO.bind ?_ (fun _ => ?_))
   | exact ih0 _ _ _
   | exact LeO.none _
   | refine LeO.ite ?_ ?_
   | refine LeO.bind ?_ (fun _ => ?_)
theorem turnspitref08_at.mono : ∀ a0 a1 k, LeO (turnspitref08_at.f k a0 a1) (turnspitref08_at.f (k + 1) a0 a1) := by
 intro a0 a1 k
 have ih0 := turnspitref08_at.mono_l k
 unfold turnspitref08_at.f
 repeat' first
   | (with_reducible exact ih0 _ _ _)
   | (with_reducible exact LeO.refl _)
   | (with_reducible exact LeO.none _)
   | (with_reducible refine LeO.ite ?_ ?_)
   | (with_reducible refine LeO.bind ?_ (fun _ => ?_))
   | exact ih0 _ _ _
   | exact LeO.none _
   | refine LeO.ite ?_ ?_
   | refine LeO.bind ?_ (fun _ => ?_)
set_option maxHeartbeats 8000000 in
set_option maxRecDepth 100000 in
theorem turnspitref08_at.calls (k : Nat) (A0 : Option Addr) (c0 : Nat) (l0 : List (S27)) (a1 : Int) (r : Int) (w : World) (hr0 : Kd.C k27 w A0 l0.length l0) (hc0 : l0.length ≤ c0) (hT : Tm.Emp w) (h : turnspitref08_at.f k l0 a1 = some r) :
  Calls Tryd.prog 64 #[.slice A0 l0.length c0, .int .i64 a1] w fun e w' => e = .returned (.int .i64 r) ∧ Drawn0 w w' := by
 have HR0 := Aside0.mk hr0; have HC0 := Aside0.mk hc0; clear hr0 hc0
 have H : (turnspitref08_at.l0 k l0 a1 0) = some r := h
 clear h
 have H' := Aside0.mk H
 clear H
 go_enter Tryd.func64, Tryd.ntmps64
 go_wp2
 go_loopg [5] k (fun kq v5 w' => ∃ (x5_1 : Int), v5 = .int .i64 x5_1 ∧ Aside0 (turnspitref08_at.l0 kq l0 a1 x5_1 = some r) ∧ Aside0 (kq ≤ k) ∧ Drawn0 w w')
 case atStart => exact ⟨(0), (by first | rfl | (simp; done) | (simp [*]; done)), H', ⟨Nat.le_refl _⟩, by repeat (first | exact Drawn0.refl _ | apply Drawn0.step)⟩
 case round =>
  clear H'; (try clear p2)
  obtain ⟨x5_1, rfl, HA, HK1, ⟨m1, rfl⟩⟩ := hrel
  cases gk with
  | zero => exact absurd HA.out (by simp [turnspitref08_at.l0])
  | succ k1 =>
   have H := HA.out; clear HA
   simp only [turnspitref08_at.l0] at H
   by_cases c3 : x5_1 < (l0.length : Int)
   ·rw [if_pos c3] at H
    have c3b0 : decide (x5_1 < (l0.length : Int)) = true := decide_eq_true c3
    clear c3
    by_cases c4 : 0 ≤ x5_1
    ·rw [if_pos c4] at H
     have c4b0 : decide (0 ≤ x5_1) = true := decide_eq_true c4
     clear c4
     by_cases c5 : ((rd_T27 l0 x5_1).f1) = a1
     ·rw [if_pos c5] at H
      have c5b0 : (((rd_T27 l0 x5_1).f1) == a1) = true := beq_iff_eq.mpr c5
      have c5b1 : (((rd_T27 l0 x5_1).f1) != a1) = false := bne_eq_false_iff_eq.mpr c5
      clear c5; obtain rfl := Option.some.inj H
      have p136 : 0 ≤ (x5_1 : Int) := of_decide_eq_true (by first | (with_reducible assumption) | assumption)
      have q136 : x5_1 < (l0.length : Int) := of_decide_eq_true (by first | (with_reducible assumption) | assumption)
      obtain ⟨ad136, e136, hx136_0, hx136_1⟩ := at_T27 HR0.out x5_1 p136 q136
      cases e136
      replace p136 := eq_true p136
      replace q136 := eq_true q136
      go_wp2
      go_ret
      exact ⟨by first | rfl | (simp; done) | (simp [*]; done), by repeat (first | exact Drawn0.refl _ | apply Drawn0.step)⟩
     ·rw [if_neg c5] at H
      have c5b0 : (((rd_T27 l0 x5_1).f1) == a1) = false := beq_eq_false_iff_ne.mpr c5
      have c5b1 : (((rd_T27 l0 x5_1).f1) != a1) = true := bne_iff_ne.mpr c5
      have H' := Aside0.mk H
      clear H
      have p136 : 0 ≤ (x5_1 : Int) := of_decide_eq_true (by first | (with_reducible assumption) | assumption)
      have q136 : x5_1 < (l0.length : Int) := of_decide_eq_true (by first | (with_reducible assumption) | assumption)
      obtain ⟨ad136, e136, hx136_0, hx136_1⟩ := at_T27 HR0.out x5_1 p136 q136
      cases e136
      replace p136 := eq_true p136
      replace q136 := eq_true q136
      go_wp2
      go_roundg k1
      case measure => have := HK1.out; omega
      case rel => exact ⟨(wrap64 (x5_1 + 1)), (by first | rfl | (simp; done) | (simp [*]; done)), H', ⟨by have := HK1.out; omega⟩, by repeat (first | exact Drawn0.refl _ | apply Drawn0.step)⟩
    ·rw [if_neg c4] at H
     exact absurd H (by simp)
   ·rw [if_neg c3] at H
    have c3b0 : decide (x5_1 < (l0.length : Int)) = false := decide_eq_false c3
    clear c3; obtain rfl := Option.some.inj H
    go_wp2
    go_ret
    exact ⟨by first | rfl | (simp; done) | (simp [*]; done), by repeat (first | exact Drawn0.refl _ | apply Drawn0.step)⟩

/-! ### turnspitref08_Drop: function 29 -/
def turnspitref08_Drop.f (k : Nat) (a0 : Int) (l1 : List (S27)) (a2 : Int) : Option ((List (S27)) × Int) := (turnspitref08_Sorted.f k a0 l1).bind fun t137 => (if t137 = true then ((turnspitref08_at.f k l1 a2).bind fun t138 => (if t138 < 0 then (some (([] : List (S27)), 8)) else (if 0 ≤ t138 then (if t138 ≤ (l1.length : Int) then ((some (l1.take (t138 : Int).toNat : List (S27))).bind fun y139 => (if ([] : List (S27)).length + y139.length < 8796093022208 then ((some (([] : List (S27)) ++ y139 : List (S27))).bind fun y143 => (if 0 ≤ (wrap64 (t138 + 1)) then (if (wrap64 (t138 + 1)) ≤ (l1.length : Int) then ((some (l1.drop ((wrap64 (t138 + 1)) : Int).toNat : List (S27))).bind fun y146 => (if y143.length + y146.length < 8796093022208 then (some ((y143 ++ y146), 0)) else (none))) else (none)) else (none))) else (none))) else (none)) else (none)))) else (some (([] : List (S27)), 4)))
theorem turnspitref08_Drop.mono : ∀ a0 a1 a2 k, LeO (turnspitref08_Drop.f k a0 a1 a2) (turnspitref08_Drop.f (k + 1) a0 a1 a2) := by
 intro a0 a1 a2 k
 unfold turnspitref08_Drop.f
 repeat' first
   | (with_reducible exact turnspitref08_Sorted.mono _ _ _)
   | (with_reducible exact turnspitref08_at.mono _ _ _)
   | (with_reducible exact LeO.refl _)
   | (with_reducible exact LeO.none _)
   | (with_reducible refine LeO.ite ?_ ?_)
   | (with_reducible refine LeO.bind ?_ (fun _ => ?_))
   | exact turnspitref08_Sorted.mono _ _ _
   | exact turnspitref08_at.mono _ _ _
   | exact LeO.none _
   | refine LeO.ite ?_ ?_
   | refine LeO.bind ?_ (fun _ => ?_)
def turnspitref08_Drop.T6 : Bool × List (List Nat × List Nat) := (true, [([], []), ([], []), ([0, 1], [0, 1]), ([2], [2]), ([], []), ([], []), ([5], [5]), ([4, 6], [4, 6]), ([3, 7, 3], [3, 7]), ([8, 8, 0, 1, 2, 3, 4, 5, 6, 7, 8], [8]), ([9, 0, 1, 2, 3, 4, 5, 6, 7, 8, 9], [])])
def turnspitref08_Drop.B6 : List Nat := [0, 0, 3, 7, 0, 0, 32, 112, 255, 511, 1023]
theorem turnspitref08_Drop.tab6 : rtab .any (opsOf Tryd.f29 6) = turnspitref08_Drop.T6 := by kernel_rfl
theorem turnspitref08_Drop.bits6 : waitsOk turnspitref08_Drop.T6.2 turnspitref08_Drop.B6 = true := by kernel_rfl
set_option maxHeartbeats 8000000 in
set_option maxRecDepth 100000 in
theorem turnspitref08_Drop.calls (k : Nat) (a0 : Int) (A1 : Option Addr) (c1 : Nat) (l1 : List (S27)) (a2 : Int) (r1 : List (S27)) (r2 : Int) (w : World) (hr1 : Kd.C k27 w A1 l1.length l1) (hc1 : l1.length ≤ c1) (hT : Tm.Emp w) (h : turnspitref08_Drop.f k a0 l1 a2 = some (r1, r2)) :
  Calls Tryd.prog 29 #[.int .u64 a0, .slice A1 l1.length c1, .int .i64 a2] w fun e w' => ∃ v0_ : Value, e = .returned (.tuple #[v0_, .int .i64 r2]) ∧ Kd.R k27 27 w' w.heap.size (fun _ => True) v0_ r1 ∧ Below w.heap.size w w' := by
 have HR1 := Aside0.mk hr1; have HC1 := Aside0.mk hc1; clear hr1 hc1
 have HB := Aside0.mk (Below.refl w.heap.size w)
 have H : ((turnspitref08_Sorted.f k a0 l1).bind fun t137 => (if t137 = true then ((turnspitref08_at.f k l1 a2).bind fun t138 => (if t138 < 0 then (some (([] : List (S27)), 8)) else (if 0 ≤ t138 then (if t138 ≤ (l1.length : Int) then ((some (l1.take (t138 : Int).toNat : List (S27))).bind fun y139 => (if ([] : List (S27)).length + y139.length < 8796093022208 then ((some (([] : List (S27)) ++ y139 : List (S27))).bind fun y143 => (if 0 ≤ (wrap64 (t138 + 1)) then (if (wrap64 (t138 + 1)) ≤ (l1.length : Int) then ((some (l1.drop ((wrap64 (t138 + 1)) : Int).toNat : List (S27))).bind fun y146 => (if y143.length + y146.length < 8796093022208 then (some ((y143 ++ y146), 0)) else (none))) else (none)) else (none))) else (none))) else (none)) else (none)))) else (some (([] : List (S27)), 4)))) = some (r1, r2) := h
 clear h
 replace H := Option.bind_eq_some_iff.mp H
 obtain ⟨t137, A40, H⟩ := H
 replace H : (if t137 = true then ((turnspitref08_at.f k l1 a2).bind fun t138 => (if t138 < 0 then (some (([] : List (S27)), 8)) else (if 0 ≤ t138 then (if t138 ≤ (l1.length : Int) then ((some (l1.take (t138 : Int).toNat : List (S27))).bind fun y139 => (if ([] : List (S27)).length + y139.length < 8796093022208 then ((some (([] : List (S27)) ++ y139 : List (S27))).bind fun y143 => (if 0 ≤ (wrap64 (t138 + 1)) then (if (wrap64 (t138 + 1)) ≤ (l1.length : Int) then ((some (l1.drop ((wrap64 (t138 + 1)) : Int).toNat : List (S27))).bind fun y146 => (if y143.length + y146.length < 8796093022208 then (some ((y143 ++ y146), 0)) else (none))) else (none)) else (none))) else (none))) else (none)) else (none)))) else (some (([] : List (S27)), 4))) = some (r1, r2) := H
 have A4 := Aside0.mk A40; clear A40
 by_cases c5 : t137 = true
 ·subst c5
  have H1 : ((turnspitref08_at.f k l1 a2).bind fun t138 => (if t138 < 0 then (some (([] : List (S27)), 8)) else (if 0 ≤ t138 then (if t138 ≤ (l1.length : Int) then ((some (l1.take (t138 : Int).toNat : List (S27))).bind fun y139 => (if ([] : List (S27)).length + y139.length < 8796093022208 then ((some (([] : List (S27)) ++ y139 : List (S27))).bind fun y143 => (if 0 ≤ (wrap64 (t138 + 1)) then (if (wrap64 (t138 + 1)) ≤ (l1.length : Int) then ((some (l1.drop ((wrap64 (t138 + 1)) : Int).toNat : List (S27))).bind fun y146 => (if y143.length + y146.length < 8796093022208 then (some ((y143 ++ y146), 0)) else (none))) else (none)) else (none))) else (none))) else (none)) else (none)))) = some (r1, r2) := by first | (rw [if_pos rfl] at H; exact H) | (rw [if_pos trivial] at H; exact H)
  clear H; have H := H1; clear H1
  replace H := Option.bind_eq_some_iff.mp H
  obtain ⟨t138, A60, H⟩ := H
  replace H : (if t138 < 0 then (some (([] : List (S27)), 8)) else (if 0 ≤ t138 then (if t138 ≤ (l1.length : Int) then ((some (l1.take (t138 : Int).toNat : List (S27))).bind fun y139 => (if ([] : List (S27)).length + y139.length < 8796093022208 then ((some (([] : List (S27)) ++ y139 : List (S27))).bind fun y143 => (if 0 ≤ (wrap64 (t138 + 1)) then (if (wrap64 (t138 + 1)) ≤ (l1.length : Int) then ((some (l1.drop ((wrap64 (t138 + 1)) : Int).toNat : List (S27))).bind fun y146 => (if y143.length + y146.length < 8796093022208 then (some ((y143 ++ y146), 0)) else (none))) else (none)) else (none))) else (none))) else (none)) else (none))) = some (r1, r2) := H
  have A6 := Aside0.mk A60; clear A60
  by_cases c7 : t138 < 0
  ·rw [if_pos c7] at H
   have c7b0 : decide (t138 < 0) = true := decide_eq_true c7
   clear c7
   simp only [Option.some.injEq, Prod.mk.injEq] at H
   obtain ⟨rfl, rfl⟩ := H
   go_enter Tryd.func29, Tryd.ntmps29
   go_wp2_with (first | ((with_reducible refine gate_callee (f := 60) rfl ?_); refine goesL_ (some 11) rfl rfl Tryd.func60 (by kernel_rfl) rfl #[.int .u64 a0, .slice A1 l1.length c1] rfl (by (try simp only [List.map_toArray, List.map_cons, List.map_nil]); first | done | rfl | (simp only [List.length_drop, List.length_take]; rfl)) ?_; (with_reducible refine (turnspitref08_Sorted.calls k a0 _ _ l1 true _ ?side1 ?side2 (by first | exact hT | ((repeat (first | exact hT | apply Tm.Emp.drewN | apply Tm.Emp.drew)); done) | exact Tm.Emp.below hT (by repeat (first | (with_reducible first | exact HB.out | apply below_alloc | apply pw_below_drewN | apply below_drew1 | refine below_set ?_ (Aside0.out (by assumption))) | exact HB.out))) A4.out).mono ?_); (case side1 => repeat (first | exact HR1.out | (with_reducible refine Kd.C_alloc ?_ _) | (with_reducible refine Kd.C_drewN ?_ _) | (with_reducible refine Kd.C_drew ?_))); (case side2 => exact HC1.out); rintro e w8 ⟨rfl, hb⟩; refine ⟨_, rfl, ?_⟩; have n0_ := Aside0.mk (below_step (by repeat (first | (with_reducible first | exact HB.out | apply below_alloc | apply pw_below_drewN | apply below_drew1) | exact HB.out)) hb); clear HB; have HB := n0_; clear n0_; (try clear hb); (try clear hb2); (try clear hk); (try clear hi)) | ((with_reducible refine gate_callee (f := 64) rfl ?_); refine goesL_ (some 15) rfl rfl Tryd.func64 (by kernel_rfl) rfl #[.slice A1 l1.length c1, .int .i64 a2] rfl (by (try simp only [List.map_toArray, List.map_cons, List.map_nil]); first | done | rfl | (simp only [List.length_drop, List.length_take]; rfl)) ?_; (with_reducible refine (turnspitref08_at.calls k _ _ l1 a2 t138 _ ?side1 ?side2 (by first | exact hT | ((repeat (first | exact hT | apply Tm.Emp.drewN | apply Tm.Emp.drew)); done) | exact Tm.Emp.below hT (by repeat (first | (with_reducible first | exact HB.out | apply below_alloc | apply pw_below_drewN | apply below_drew1 | refine below_set ?_ (Aside0.out (by assumption))) | exact HB.out))) A6.out).mono ?_); (case side1 => repeat (first | exact (Kd.C_below HR1.out HB.out) | (with_reducible refine Kd.C_alloc ?_ _) | (with_reducible refine Kd.C_drewN ?_ _) | (with_reducible refine Kd.C_drew ?_))); (case side2 => exact HC1.out); rintro e w' ⟨rfl, ⟨nd, rfl⟩⟩; refine ⟨_, rfl, ?_⟩))
   go_ret2
   exact ⟨_, by first | rfl | (simp [errW_none, errW_some] <;> rfl) | (simp [*, errW_none, errW_some] <;> rfl), by first | exact Kd.R_nil _ _ _ _ _ | exact Kd.N_nil _ _ _ _ _ | exact Kd.V_nil _ _ _ _ _ | exact Kd.Q_nil _ _ _ _ _ | exact Kd.S_nil _ _ _ _ _, by repeat (first | (with_reducible first | exact HB.out | apply below_alloc | apply pw_below_drewN | apply below_drew1) | exact HB.out)⟩
  ·rw [if_neg c7] at H
   have c7b0 : decide (t138 < 0) = false := decide_eq_false c7
   clear c7
   by_cases c9 : 0 ≤ t138
   ·rw [if_pos c9] at H
    have c9b0 := eq_true c9
    have c9b1 : decide (0 ≤ t138) = true := decide_eq_true c9
    clear c9
    by_cases c10 : t138 ≤ (l1.length : Int)
    ·rw [if_pos c10] at H
     have c10b0 := eq_true c10
     have c10b1 : decide (t138 ≤ (l1.length : Int)) = true := decide_eq_true c10
     clear c10
     obtain ⟨y139, hy139⟩ : ∃ y_ : List (S27), y_ = (l1.take (t138 : Int).toNat) := ⟨_, rfl⟩
     replace H : (if ([] : List (S27)).length + y139.length < 8796093022208 then ((some (([] : List (S27)) ++ y139 : List (S27))).bind fun y143 => (if 0 ≤ (wrap64 (t138 + 1)) then (if (wrap64 (t138 + 1)) ≤ (l1.length : Int) then ((some (l1.drop ((wrap64 (t138 + 1)) : Int).toNat : List (S27))).bind fun y146 => (if y143.length + y146.length < 8796093022208 then (some ((y143 ++ y146), 0)) else (none))) else (none)) else (none))) else (none)) = some (r1, r2) := by first | (rw [hy139]; with_reducible exact H) | (have H2_ := (Option.bind_some _ _).symm.trans H; rw [hy139]; with_reducible exact H2_) | (have H2_ := (Option.bind_some _ _).symm.trans H; with_reducible exact H2_) | with_reducible exact H | (rw [hy139]; exact H) | exact H
     have Ny139 := Aside0.mk hy139; clear hy139
     by_cases c11 : ([] : List (S27)).length + y139.length < 8796093022208
     ·rw [if_pos c11] at H
      have LMc11 := Aside0.mk c11; clear c11
      obtain ⟨y143, hy143⟩ : ∃ y_ : List (S27), y_ = (([] : List (S27)) ++ y139) := ⟨_, rfl⟩
      replace H : (if 0 ≤ (wrap64 (t138 + 1)) then (if (wrap64 (t138 + 1)) ≤ (l1.length : Int) then ((some (l1.drop ((wrap64 (t138 + 1)) : Int).toNat : List (S27))).bind fun y146 => (if y143.length + y146.length < 8796093022208 then (some ((y143 ++ y146), 0)) else (none))) else (none)) else (none)) = some (r1, r2) := by first | (rw [hy143]; with_reducible exact H) | (have H2_ := (Option.bind_some _ _).symm.trans H; rw [hy143]; with_reducible exact H2_) | (have H2_ := (Option.bind_some _ _).symm.trans H; with_reducible exact H2_) | with_reducible exact H | (rw [hy143]; exact H) | exact H
      have Ny143 := Aside0.mk hy143; clear hy143
      obtain ⟨ji12, hji12⟩ : ∃ j_ : Int, (wrap64 (t138 + 1)) = j_ := ⟨_, rfl⟩
      replace H : (if 0 ≤ (ji12) then (if (ji12) ≤ (l1.length : Int) then ((some (l1.drop ((ji12) : Int).toNat : List (S27))).bind fun y146 => (if y143.length + y146.length < 8796093022208 then (some ((y143 ++ y146), 0)) else (none))) else (none)) else (none)) = some (r1, r2) := by first | (rw [hji12] at H; exact H) | (simp only [hji12] at H ⊢; exact H)
      (try rw [hji12] at A4)
      (try rw [hji12] at A6)
      have hji12w : (IntKind.i64.wrap (t138 + 1)) = ji12 := (i64_w _).trans hji12
      by_cases c13 : 0 ≤ (ji12)
      ·rw [if_pos c13] at H
       have c13b0 := eq_true c13
       have c13b1 : decide (0 ≤ (ji12)) = true := decide_eq_true c13
       clear c13
       by_cases c14 : (ji12) ≤ (l1.length : Int)
       ·rw [if_pos c14] at H
        have c14b0 := eq_true c14
        have c14b1 : decide ((ji12) ≤ (l1.length : Int)) = true := decide_eq_true c14
        clear c14
        obtain ⟨y146, hy146⟩ : ∃ y_ : List (S27), y_ = (l1.drop ((ji12) : Int).toNat) := ⟨_, rfl⟩
        replace H : (if y143.length + y146.length < 8796093022208 then (some ((y143 ++ y146), 0)) else (none)) = some (r1, r2) := by first | (rw [hy146]; with_reducible exact H) | (have H2_ := (Option.bind_some _ _).symm.trans H; rw [hy146]; with_reducible exact H2_) | (have H2_ := (Option.bind_some _ _).symm.trans H; with_reducible exact H2_) | with_reducible exact H | (rw [hy146]; exact H) | exact H
        have Ny146 := Aside0.mk hy146; clear hy146
        by_cases c15 : y143.length + y146.length < 8796093022208
        ·rw [if_pos c15] at H
         have LMc15 := Aside0.mk c15; clear c15
         obtain ⟨y150, hy150⟩ : ∃ y_ : List (S27), y_ = (y143 ++ y146) := ⟨_, rfl⟩
         replace H : (some (y150, 0)) = some (r1, r2) := by first | (rw [hy150]; with_reducible exact H) | (have H2_ := (Option.bind_some _ _).symm.trans H; rw [hy150]; with_reducible exact H2_) | (have H2_ := (Option.bind_some _ _).symm.trans H; with_reducible exact H2_) | with_reducible exact H | (rw [hy150]; exact H) | exact H
         have Ny150 := Aside0.mk hy150; clear hy150
         simp only [Option.some.injEq, Prod.mk.injEq] at H
         obtain ⟨rfl, rfl⟩ := H
         go_enter Tryd.func29, Tryd.ntmps29
         try go_wp2_with (first | ((with_reducible refine gate_callee (f := 60) rfl ?_); refine goesL_ (some 11) rfl rfl Tryd.func60 (by kernel_rfl) rfl #[.int .u64 a0, .slice A1 l1.length c1] rfl (by (try simp only [List.map_toArray, List.map_cons, List.map_nil]); first | done | rfl | (simp only [List.length_drop, List.length_take]; rfl)) ?_; (with_reducible refine (turnspitref08_Sorted.calls k a0 _ _ l1 true _ ?side1 ?side2 (by first | exact hT | ((repeat (first | exact hT | apply Tm.Emp.drewN | apply Tm.Emp.drew)); done) | exact Tm.Emp.below hT (by repeat (first | (with_reducible first | exact HB.out | apply below_alloc | apply pw_below_drewN | apply below_drew1 | refine below_set ?_ (Aside0.out (by assumption))) | exact HB.out))) A4.out).mono ?_); (case side1 => repeat (first | exact HR1.out | (with_reducible refine Kd.C_alloc ?_ _) | (with_reducible refine Kd.C_drewN ?_ _) | (with_reducible refine Kd.C_drew ?_))); (case side2 => exact HC1.out); rintro e w16 ⟨rfl, hb⟩; refine ⟨_, rfl, ?_⟩; have n0_ := Aside0.mk (below_step (by repeat (first | (with_reducible first | exact HB.out | apply below_alloc | apply pw_below_drewN | apply below_drew1) | exact HB.out)) hb); clear HB; have HB := n0_; clear n0_; (try clear hb); (try clear hb2); (try clear hk); (try clear hi)) | ((with_reducible refine gate_callee (f := 64) rfl ?_); refine goesL_ (some 15) rfl rfl Tryd.func64 (by kernel_rfl) rfl #[.slice A1 l1.length c1, .int .i64 a2] rfl (by (try simp only [List.map_toArray, List.map_cons, List.map_nil]); first | done | rfl | (simp only [List.length_drop, List.length_take]; rfl)) ?_; (with_reducible refine (turnspitref08_at.calls k _ _ l1 a2 t138 _ ?side1 ?side2 (by first | exact hT | ((repeat (first | exact hT | apply Tm.Emp.drewN | apply Tm.Emp.drew)); done) | exact Tm.Emp.below hT (by repeat (first | (with_reducible first | exact HB.out | apply below_alloc | apply pw_below_drewN | apply below_drew1 | refine below_set ?_ (Aside0.out (by assumption))) | exact HB.out))) A6.out).mono ?_); (case side1 => repeat (first | exact (Kd.C_below HR1.out HB.out) | (with_reducible refine Kd.C_alloc ?_ _) | (with_reducible refine Kd.C_drewN ?_ _) | (with_reducible refine Kd.C_drew ?_))); (case side2 => exact HC1.out); rintro e w' ⟨rfl, ⟨nd, rfl⟩⟩; refine ⟨_, rfl, ?_⟩))
         (try (rw [drewN_self w16]; generalize hq_ : World.drewN w16 _ = w16; have n0_ : Aside0 (Below w.heap.size w w16) := ⟨by rw [← hq_]; exact (by repeat (first | (with_reducible first | exact HB.out | apply below_alloc | apply pw_below_drewN | apply below_drew1) | exact HB.out))⟩; clear HB hq_; have HB := n0_; clear n0_))
         have n0_ := Aside0.mk (below_drew1 HB.out)
         clear HB; have HB := n0_; clear n0_
         have q18 : (t138 : Int) ≤ ((l1.length : Int) : Int) := of_decide_eq_true (by first | (with_reducible assumption) | assumption)
         obtain ⟨i018, hi018, _, hsz18, _⟩ := info_parts info27
         have hroom18 : l1.length ≤ c1 := HC1.out
         have hC18 : Kd.C k27 _ A1 l1.length l1 := HR1.out
         have hcut18 := cut_to (P := Tryd.prog) 38 27 .i64 Tryd.underlying38 hi018 A1 l1.length c1 t138 (of_decide_eq_true (by first | (with_reducible assumption) | assumption)) q18 hroom18
         have hr18 := Kd.C_take (m := (t138 : Int).toNat) hC18 (by omega)
         have hy18 : y139.length = (t138 : Int).toNat := (by rw [Ny139.out, List.length_take]; omega)
         rw [← Ny139.out] at hr18
         rw [← hy18] at hcut18
         have HR142 := Aside0.mk hr18
         have HC142 := Aside0.mk (show y139.length ≤ c1 from by omega)
         clear hr18 hC18 hroom18 hi018 hsz18; have KY18 := Aside0.mk hy18; clear hy18
         replace q18 := eq_true q18
         have q19 : ((ji12) : Int) ≤ ((l1.length : Int) : Int) := of_decide_eq_true (by first | (with_reducible assumption) | assumption)
         obtain ⟨i019, hi019, _, hsz19, _⟩ := info_parts info27
         have hroom19 : l1.length ≤ c1 := HC1.out
         have hC19 : Kd.C k27 _ A1 l1.length l1 := HR1.out
         have q019 : (0 : Int) ≤ ((ji12) : Int) := of_decide_eq_true (by first | (with_reducible assumption) | assumption)
         have hcut19 := cut_from (P := Tryd.prog) 38 27 .i64 Tryd.underlying38 hi019 2 hsz19 A1 l1.length c1 (ji12) q019 q19
         have hr19 := Kd.C_drop (m := ((ji12) : Int).toNat) (c := c1) hC19 (by omega) hroom19
         obtain ⟨A19, hA19⟩ : ∃ Az_, Az_ = (if c1 = ((ji12) : Int).toNat then A1 else (A1 : Option Addr).map (·.add (((ji12) : Int).toNat * 2))) := ⟨_, rfl⟩
         obtain ⟨c19, hc19⟩ : ∃ cz_, cz_ = c1 - ((ji12) : Int).toNat := ⟨_, rfl⟩
         have hy19 : y146.length = l1.length - ((ji12) : Int).toNat := (by rw [Ny146.out, List.length_drop] <;> omega)
         rw [show (l1).drop ((ji12) : Int).toNat = y146 from Ny146.out.symm] at hr19
         replace hr19 : Kd.C k27 _ A19 y146.length y146 := (by rw [hA19]; exact hr19)
         rw [← hy19, ← hA19, ← hc19] at hcut19
         have HR149 := Aside0.mk hr19
         have HC149 := Aside0.mk (show y146.length ≤ c19 from by rw [hy19, hc19]; exact Nat.sub_le_sub_right hroom19 _)
         clear hr19 hC19 hroom19 hi019 hsz19 hc19; have KY19 := Aside0.mk hy19; have KA19 := Aside0.mk hA19; clear hy19 hA19
         replace q19 := eq_true q19
         refine start_ (n := 11) (S := fun w' => True) (ds := []) #[false, false, false, false, false, false, false, false, false, false, false] (by kernel_rfl) rfl rfl trivial (fun hHeld => ?_); refine with_tabW turnspitref08_Drop.tab6 turnspitref08_Drop.bits6 (fun HT_ HW_ => ?_)
         generalize w16.drew = w17 at HB HR142 HR149 hHeld ⊢
         refine pure_ (i := 0) (N := some 18) (v := ?_) (a' := ?_) #[true, false, false, false, false, false, false, false, false, false, false] rfl rfl (any_of HT_.out (by kernel_rfl)) (fun _ _ _ h => h) (Or.inl ⟨by rfl, ?_⟩) ?_ ?_
         rotate_left
         ·intro w'
          go_simp
          with_reducible rfl
         rotate_left
         ·simp only [Act.put, List.setIfInBounds_toArray, List.set_cons_zero, List.set_cons_succ, i64_w, i32_w]
          rfl
         refine pure_ (i := 1) (N := some 19) (v := ?_) (a' := ?_) #[true, true, false, false, false, false, false, false, false, false, false] rfl rfl (any_of HT_.out (by kernel_rfl)) (fun _ _ _ h => h) (Or.inl ⟨by rfl, ?_⟩) ?_ ?_
         rotate_left
         ·intro w'
          go_simp
          with_reducible rfl
         rotate_left
         ·simp only [Act.put, List.setIfInBounds_toArray, List.set_cons_zero, List.set_cons_succ, i64_w, i32_w]
          rfl
         refine pure_ (i := 2) (N := some 20) (v := ?_) (a' := ?_) #[true, true, true, false, false, false, false, false, false, false, false] rfl rfl (any_of HT_.out (by kernel_rfl)) (fun _ _ _ h => h) (Or.inl ⟨by rfl, ?_⟩) ?_ ?_
         rotate_left
         ·intro w'
          go_simp
          with_reducible rfl
         rotate_left
         ·simp only [Act.put, List.setIfInBounds_toArray, List.set_cons_zero, List.set_cons_succ, i64_w, i32_w]
          rfl
         refine pure_ (i := 4) (N := some 22) (v := ?_) (a' := ?_) #[true, true, true, false, true, false, false, false, false, false, false] rfl rfl (any_of HT_.out (by kernel_rfl)) (fun _ _ _ h => h) (Or.inl ⟨by rfl, ?_⟩) ?_ ?_
         rotate_left
         ·intro w'
          go_simp
          with_reducible rfl
         rotate_left
         ·simp only [Act.put, List.setIfInBounds_toArray, List.set_cons_zero, List.set_cons_succ, i64_w, i32_w]
          rfl
         refine pure_ (i := 5) (N := some 23) (v := ?_) (a' := ?_) #[true, true, true, false, true, true, false, false, false, false, false] rfl rfl (any_of HT_.out (by kernel_rfl)) (fun _ _ _ h => h) (Or.inl ⟨by rfl, ?_⟩) ?_ ?_
         rotate_left
         ·intro w'
          go_simp
          with_reducible rfl
         rotate_left
         ·simp only [Act.put, List.setIfInBounds_toArray, List.set_cons_zero, List.set_cons_succ, i64_w, i32_w]
          rfl
         refine pure_ (i := 6) (N := some 24) (v := ?_) (a' := ?_) #[true, true, true, false, true, true, true, false, false, false, false] rfl rfl (any_of HT_.out (by kernel_rfl)) (fun _ _ _ h => h) (Or.inl ⟨by rfl, ?_⟩) ?_ ?_
         rotate_left
         ·intro w'
          go_simp
          with_reducible rfl
         rotate_left
         ·simp only [Act.put, List.setIfInBounds_toArray, List.set_cons_zero, List.set_cons_succ, i64_w, i32_w]
          rfl
         refine pure_ (i := 7) (N := some 25) (v := ?_) (a' := ?_) #[true, true, true, false, true, true, true, true, false, false, false] rfl rfl (any_of HT_.out (by kernel_rfl)) (fun _ _ _ h => h) (Or.inl ⟨by rfl, ?_⟩) ?_ ?_
         rotate_left
         ·intro w'
          go_simp
          with_reducible rfl
         rotate_left
         ·simp only [Act.put, List.setIfInBounds_toArray, List.set_cons_zero, List.set_cons_succ, i64_w, i32_w]
          rfl
         refine one_ (i := 3) (N := some 21) #[true, true, true, true, true, true, true, true, false, false, false] rfl rfl (one_of HT_.out (by kernel_rfl)) (by decide) (fun K hK => ?_)
         refine Kd.R_append_rows_step k27 (w0 := w) w.heap.size (by rfl) (.const (.slice none 0 0)) (.tmp 20) 38 27 (.agg #[(.int .u64 0), (.int .i64 0)]) 16 rfl Tryd.underlying38 info27 rfl (by decide) (by omega) (.slice none 0 0) ([] : List (S27)) y139 _ _ _ (fun _ => True) (fun _ => False) rfl rfl ?aO ?aR (fun _ _ h => h) (fun _ h => h.elim) ?aF ?aB ?aS ?aL ?_
         (case aR => repeat (first | exact (Kd.C_below HR142.out HB.out) | (with_reducible refine Kd.C_alloc ?_ _) | (with_reducible refine Kd.C_drewN ?_ _) | (with_reducible refine Kd.C_drew ?_)))
         (case aB => exact (by repeat (first | (with_reducible first | exact HB.out | apply below_alloc | apply pw_below_drewN | apply below_drew1) | exact HB.out)))
         (case aF => exact (fun _ _ => trivial))
         (case aO => exact ((Kd.R_nil _ _ _ _ (fun _ => True))))
         (case aS => exact (below_size (by repeat (first | (with_reducible first | exact HB.out | apply below_alloc | apply pw_below_drewN | apply below_drew1) | exact HB.out))))
         (case aL => have := LMc11.out; omega)
         intro v144 w20 ho hb hg hat
         rw [← Ny143.out] at ho
         have n0_ := Aside0.mk (hb)
         have n1_ := Aside0.mk (ho)
         clear HB; have HB := n0_; have HO145 := n1_; clear n0_ n1_; clear ho hb hg hat
         refine hK.out _ _ trivial (fun hHeld => ?_)
         clear hK K
         refine norm_ (a' := ?_) ?_ ?_
         rotate_left
         ·show Act.put _ (some 21) _ = _
          simp only [Act.put, List.setIfInBounds_toArray, List.set_cons_zero, List.set_cons_succ, i64_w, i32_w]
          rfl
         refine one_ (i := 8) (N := some 26) #[true, true, true, true, true, true, true, true, true, false, false] rfl rfl (one_of HT_.out (by kernel_rfl)) (by decide) (fun K hK => ?_)
         refine Kd.R_append_rows_step k27 (w0 := w) w.heap.size (by rfl) (.tmp 21) (.tmp 25) 38 27 (.agg #[(.int .u64 0), (.int .i64 0)]) 16 rfl Tryd.underlying38 info27 rfl (by decide) (by omega) v144 y143 y146 _ _ _ (fun _ => True) (fun _ => False) rfl rfl ?aO ?aR (fun _ _ h => h) (fun _ h => h.elim) ?aF ?aB ?aS ?aL ?_
         (case aR => repeat (first | exact (Kd.C_below HR149.out HB.out) | (with_reducible refine Kd.C_alloc ?_ _) | (with_reducible refine Kd.C_drewN ?_ _) | (with_reducible refine Kd.C_drew ?_)))
         (case aB => exact (by repeat (first | (with_reducible first | exact HB.out | apply below_alloc | apply pw_below_drewN | apply below_drew1) | exact HB.out)))
         (case aF => exact (fun _ _ => trivial))
         (case aO => exact (by (with_reducible repeat (first | apply Kd.R_alloc | apply Kd.R_drewN | apply Kd.R_drew)); exact HO145.out))
         (case aS => exact (below_size (by repeat (first | (with_reducible first | exact HB.out | apply below_alloc | apply pw_below_drewN | apply below_drew1) | exact HB.out))))
         (case aL => have := LMc15.out; omega)
         intro v151 w21 ho hb hg hat
         rw [← Ny150.out] at ho
         have n0_ := Aside0.mk (hb)
         have n1_ := Aside0.mk (ho)
         clear HB; clear HO145; have HB := n0_; have HO152 := n1_; clear n0_ n1_; clear ho hb hg hat
         refine hK.out _ _ trivial (fun hHeld => ?_)
         clear hK K
         refine norm_ (a' := ?_) ?_ ?_
         rotate_left
         ·show Act.put _ (some 26) _ = _
          simp only [Act.put, List.setIfInBounds_toArray, List.set_cons_zero, List.set_cons_succ, i64_w, i32_w]
          rfl
         refine pure_ (i := 9) (N := some 6) (v := ?_) (a' := ?_) #[true, true, true, true, true, true, true, true, true, true, false] rfl rfl (any_of HT_.out (by kernel_rfl)) (fun _ _ _ h => h) (Or.inl ⟨by rfl, ?_⟩) ?_ ?_
         rotate_left
         ·intro w'
          go_simp
          with_reducible rfl
         rotate_left
         ·simp only [Act.put, List.setIfInBounds_toArray, List.set_cons_zero, List.set_cons_succ, i64_w, i32_w]
          rfl
         refine pure_ (i := 10) (N := some 7) (v := ?_) (a' := ?_) #[true, true, true, true, true, true, true, true, true, true, true] rfl rfl (any_of HT_.out (by kernel_rfl)) (fun _ _ _ h => h) (Or.inl ⟨by rfl, ?_⟩) ?_ ?_
         rotate_left
         ·intro w'
          go_simp
          with_reducible rfl
         rotate_left
         ·simp only [Act.put, List.setIfInBounds_toArray, List.set_cons_zero, List.set_cons_succ, i64_w, i32_w]
          rfl
         refine done_ (done_of HT_.out (by kernel_rfl)) ?_
         try go_wp2
         go_ret2
         exact ⟨_, by first | rfl | (simp [errW_none, errW_some] <;> rfl) | (simp only [← hji12]; first | rfl | (simp [errW_none, errW_some] <;> rfl)) | (simp [*, errW_none, errW_some] <;> rfl), by (with_reducible repeat (first | apply Kd.R_alloc | apply Kd.R_drewN | apply Kd.R_drew)); exact HO152.out, by repeat (first | (with_reducible first | exact HB.out | apply below_alloc | apply pw_below_drewN | apply below_drew1) | exact HB.out)⟩
        ·rw [if_neg c15] at H
         exact absurd H (by simp)
       ·rw [if_neg c14] at H
        exact absurd H (by simp)
      ·rw [if_neg c13] at H
       exact absurd H (by simp)
     ·rw [if_neg c11] at H
      exact absurd H (by simp)
    ·rw [if_neg c10] at H
     exact absurd H (by simp)
   ·rw [if_neg c9] at H
    exact absurd H (by simp)
 ·replace c5 := Bool.eq_false_iff.mpr c5
  subst c5
  have H1 : (some (([] : List (S27)), 4)) = some (r1, r2) := by first | (rw [if_neg (show ¬ (false = true) by decide)] at H; exact H) | (rw [if_neg (fun h => h)] at H; exact H)
  clear H; have H := H1; clear H1
  simp only [Option.some.injEq, Prod.mk.injEq] at H
  obtain ⟨rfl, rfl⟩ := H
  go_enter Tryd.func29, Tryd.ntmps29
  go_wp2_with (first | ((with_reducible refine gate_callee (f := 60) rfl ?_); refine goesL_ (some 11) rfl rfl Tryd.func60 (by kernel_rfl) rfl #[.int .u64 a0, .slice A1 l1.length c1] rfl (by (try simp only [List.map_toArray, List.map_cons, List.map_nil]); first | done | rfl | (simp only [List.length_drop, List.length_take]; rfl)) ?_; (with_reducible refine (turnspitref08_Sorted.calls k a0 _ _ l1 false _ ?side1 ?side2 (by first | exact hT | ((repeat (first | exact hT | apply Tm.Emp.drewN | apply Tm.Emp.drew)); done) | exact Tm.Emp.below hT (by repeat (first | (with_reducible first | exact HB.out | apply below_alloc | apply pw_below_drewN | apply below_drew1 | refine below_set ?_ (Aside0.out (by assumption))) | exact HB.out))) A4.out).mono ?_); (case side1 => repeat (first | exact HR1.out | (with_reducible refine Kd.C_alloc ?_ _) | (with_reducible refine Kd.C_drewN ?_ _) | (with_reducible refine Kd.C_drew ?_))); (case side2 => exact HC1.out); rintro e w22 ⟨rfl, hb⟩; refine ⟨_, rfl, ?_⟩; have n0_ := Aside0.mk (below_step (by repeat (first | (with_reducible first | exact HB.out | apply below_alloc | apply pw_below_drewN | apply below_drew1) | exact HB.out)) hb); clear HB; have HB := n0_; clear n0_; (try clear hb); (try clear hb2); (try clear hk); (try clear hi)))
  go_ret2
  exact ⟨_, by first | rfl | (simp [errW_none, errW_some] <;> rfl) | (simp [*, errW_none, errW_some] <;> rfl), by first | exact Kd.R_nil _ _ _ _ _ | exact Kd.N_nil _ _ _ _ _ | exact Kd.V_nil _ _ _ _ _ | exact Kd.Q_nil _ _ _ _ _ | exact Kd.S_nil _ _ _ _ _, by repeat (first | (with_reducible first | exact HB.out | apply below_alloc | apply pw_below_drewN | apply below_drew1) | exact HB.out)⟩

end Go.Proofs.YtfapmcpmfeigbaaDoor.QTreeHolds
