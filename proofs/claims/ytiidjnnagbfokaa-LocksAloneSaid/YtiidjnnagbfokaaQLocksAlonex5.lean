/- Go functions of the program, each as a function of Lean with the proof that the Go text comes to its answers; no condition. Written by a program of this session. -/
import Derived.Test.YtiidjnnagbfokaaQLocksAlonex0
import Derived.Test.YtiidjnnagbfokaaQLocksAlonex3
import Derived.Test.YtiidjnnagbfokaaQLocksAlonex4
namespace Go.Proofs.Ytiidjnnagbfokaa.QLocksAlone
open Go.RowKit Go.Proofs.YtiidjnnagbfokaaW.PrintWords Go.Proofs.YtiidjnnagbfokaaW.PrintLast Go.Proofs.YtiidjnnagbfokaaW.PrintMore
attribute [local go_sem] max2_int min2_int max_two min_two max_three min_three max_four min_four   -- for this text's walks alone
set_option linter.unusedVariables false
set_option linter.unusedSimpArgs false

/-! ### turnspitlaw11_LocksAlone: function 8 -/
mutual
def turnspitlaw11_LocksAlone.j0 : Nat → Bool → List (S52) → Bool → List Int → Option (Bool)
  | 0, _, _, _, _ => none
  | k + 1, x7, x10, x49, x194000 => if x49 = true then (some false) else (turnspitlaw11_LocksAlone.l0 k x7 x10 0 0 x194000)
def turnspitlaw11_LocksAlone.l0 : Nat → Bool → List (S52) → Int → Int → List Int → Option (Bool)
  | 0, _, _, _, _, _ => none
  | k + 1, x7, x10, x13, x14, x194000 => if x14 < (x10.length : Int) then (turnspitlaw11_LocksAlone.l1 k x7 x10 x13 x14 0 x194000) else (turnspitlaw11_LocksAlone.l2 k x7 x13 0 x194000)
def turnspitlaw11_LocksAlone.l1 : Nat → Bool → List (S52) → Int → Int → Int → List Int → Option (Bool)
  | 0, _, _, _, _, _, _ => none
  | k + 1, x7, x10, x13, x14, x15, x194000 => if 0 ≤ x14 then (if x14 < (x10.length : Int) then (if x15 < (((rd_T52 x10 x14).f0).length : Int) then (if 0 ≤ x15 then (if (rd ((rd_T52 x10 x14).f0) x15) < 0 then (some false) else (if (rd ((rd_T52 x10 x14).f0) x15) > 5 then (some false) else (if 0 ≤ (rd ((rd_T52 x10 x14).f0) x15) then (if (rd ((rd_T52 x10 x14).f0) x15) < (x194000.length : Int) then (if (rd x194000 (rd ((rd_T52 x10 x14).f0) x15)) = x14 then (if (rd ((rd_T52 x10 x14).f0) x15) = ((rd_T52 x10 x14).f1) then (some false) else (turnspitlaw11_LocksAlone.l1 k x7 x10 (wrap64 (x13 + 1)) x14 (wrap64 (x15 + 1)) x194000)) else (some false)) else (none)) else (none)))) else (none)) else (turnspitlaw11_LocksAlone.l0 k x7 x10 x13 (wrap64 (x14 + 1)) x194000)) else (none)) else (none)
def turnspitlaw11_LocksAlone.l2 : Nat → Bool → Int → Int → List Int → Option (Bool)
  | 0, _, _, _, _ => none
  | k + 1, x7, x13, x17, x194000 => if x17 < 6 then (if 0 ≤ x17 then (if x17 < (x194000.length : Int) then (if (rd x194000 x17) ≥ 0 then (turnspitlaw11_LocksAlone.l2 k x7 (wrap64 (x13 - 1)) (wrap64 (x17 + 1)) x194000) else (turnspitlaw11_LocksAlone.l2 k x7 x13 (wrap64 (x17 + 1)) x194000)) else (none)) else (none)) else (if x7 = true then (some (x13 == 0)) else (some false))
end
def turnspitlaw11_LocksAlone.f (k : Nat) (l0 : List Int) (a1 : Bool) (l2 : List Int) : Option (Bool) := (turnspitlaw11_awake.f).bind fun t176 => (if t176 = true then ((turnspitlaw11_Jobs.f l0).bind fun t177 => ((turnspitlaw11_Picks.f k (t177.length : Int) l2).bind fun t180 => ((locks_Play.f 6 t177 a1 t180).bind fun bt183 => (if bt183.2.2.2 = 0 then (if (bt183.2.1.length : Int) = (t177.length : Int) then (turnspitlaw11_LocksAlone.j0 k t176 bt183.2.1 ((bt183.1.length : Int) != 6) bt183.1) else (turnspitlaw11_LocksAlone.j0 k t176 bt183.2.1 true bt183.1)) else (turnspitlaw11_LocksAlone.j0 k t176 bt183.2.1 true bt183.1))))) else (some false))
theorem turnspitlaw11_LocksAlone.mono_l : ∀ k, (∀ y0 y1 y2 y3, LeO (turnspitlaw11_LocksAlone.j0 k y0 y1 y2 y3) (turnspitlaw11_LocksAlone.j0 (k + 1) y0 y1 y2 y3)) ∧ (∀ y0 y1 y2 y3 y4, LeO (turnspitlaw11_LocksAlone.l0 k y0 y1 y2 y3 y4) (turnspitlaw11_LocksAlone.l0 (k + 1) y0 y1 y2 y3 y4)) ∧ (∀ y0 y1 y2 y3 y4 y5, LeO (turnspitlaw11_LocksAlone.l1 k y0 y1 y2 y3 y4 y5) (turnspitlaw11_LocksAlone.l1 (k + 1) y0 y1 y2 y3 y4 y5)) ∧ (∀ y0 y1 y2 y3, LeO (turnspitlaw11_LocksAlone.l2 k y0 y1 y2 y3) (turnspitlaw11_LocksAlone.l2 (k + 1) y0 y1 y2 y3))
  | 0 => ⟨fun _ _ _ _ r h => by simp [turnspitlaw11_LocksAlone.j0] at h, fun _ _ _ _ _ r h => by simp [turnspitlaw11_LocksAlone.l0] at h, fun _ _ _ _ _ _ r h => by simp [turnspitlaw11_LocksAlone.l1] at h, fun _ _ _ _ r h => by simp [turnspitlaw11_LocksAlone.l2] at h⟩
  | k + 1 => by
    obtain ⟨ih0, ih1, ih2, ih3⟩ := turnspitlaw11_LocksAlone.mono_l k
    refine ⟨?_, ?_, ?_, ?_⟩
    · intro y0 y1 y2 y3
      unfold turnspitlaw11_LocksAlone.j0
      repeat' first
      | (with_reducible exact ih0 _ _ _ _)
      | (with_reducible exact ih1 _ _ _ _ _)
      | (with_reducible exact ih2 _ _ _ _ _ _)
      | (with_reducible exact ih3 _ _ _ _)
      | (with_reducible exact turnspitlaw11_Picks.mono _ _ _)
      | (with_reducible exact LeO.refl _)
      | (with_reducible exact LeO.none _)
      | (with_reducible refine LeO.ite ?_ ?_)
      | (with_reducible refine LeO.bind ?_ (fun _ => ?_))
      | exact ih0 _ _ _ _
      | exact ih1 _ _ _ _ _
      | exact ih2 _ _ _ _ _ _
      | exact ih3 _ _ _ _
      | exact turnspitlaw11_Picks.mono _ _ _
      | exact LeO.none _
      | refine LeO.ite ?_ ?_
      | refine LeO.bind ?_ (fun _ => ?_)
    · intro y0 y1 y2 y3 y4
      unfold turnspitlaw11_LocksAlone.l0
      repeat' first
      | (with_reducible exact ih0 _ _ _ _)
      | (with_reducible exact ih1 _ _ _ _ _)
      | (with_reducible exact ih2 _ _ _ _ _ _)
      | (with_reducible exact ih3 _ _ _ _)
      | (with_reducible exact turnspitlaw11_Picks.mono _ _ _)
      | (with_reducible exact LeO.refl _)
      | (with_reducible exact LeO.none _)
      | (with_reducible refine LeO.ite ?_ ?_)
      | (with_reducible refine LeO.bind ?_ (fun _ => ?_))
      | exact ih0 _ _ _ _
      | exact ih1 _ _ _ _ _
      | exact ih2 _ _ _ _ _ _
      | exact ih3 _ _ _ _
      | exact turnspitlaw11_Picks.mono _ _ _
      | exact LeO.none _
      | refine LeO.ite ?_ ?_
      | refine LeO.bind ?_ (fun _ => ?_)
    · intro y0 y1 y2 y3 y4 y5
      unfold turnspitlaw11_LocksAlone.l1
      repeat' first
      | (with_reducible exact ih0 _ _ _ _)
      | (with_reducible exact ih1 _ _ _ _ _)
      | (with_reducible exact ih2 _ _ _ _ _ _)
      | (with_reducible exact ih3 _ _ _ _)
      | (with_reducible exact turnspitlaw11_Picks.mono _ _ _)
      | (with_reducible exact LeO.refl _)
      | (with_reducible exact LeO.none _)
      | (with_reducible refine LeO.ite ?_ ?_)
      | (with_reducible refine LeO.bind ?_ (fun _ => ?_))
      | exact ih0 _ _ _ _
      | exact ih1 _ _ _ _ _
      | exact ih2 _ _ _ _ _ _
      | exact ih3 _ _ _ _
      | exact turnspitlaw11_Picks.mono _ _ _
      | exact LeO.none _
      | refine LeO.ite ?_ ?_
      | refine LeO.bind ?_ (fun _ => ?_)
    · intro y0 y1 y2 y3
      unfold turnspitlaw11_LocksAlone.l2
      repeat' first
      | (with_reducible exact ih0 _ _ _ _)
      | (with_reducible exact ih1 _ _ _ _ _)
      | (with_reducible exact ih2 _ _ _ _ _ _)
      | (with_reducible exact ih3 _ _ _ _)
      | (with_reducible exact turnspitlaw11_Picks.mono _ _ _)
      | (with_reducible exact LeO.refl _)
      | (with_reducible exact LeO.none _)
      | (with_reducible refine LeO.ite ?_ ?_)
      | (with_reducible refine LeO.bind ?_ (fun _ => ?_))
      | exact ih0 _ _ _ _
      | exact ih1 _ _ _ _ _
      | exact ih2 _ _ _ _ _ _
      | exact ih3 _ _ _ _
      | exact turnspitlaw11_Picks.mono _ _ _
      | exact LeO.none _
      | refine LeO.ite ?_ ?_
      | refine LeO.bind ?_ (fun _ => ?_)
theorem turnspitlaw11_LocksAlone.mono : ∀ a0 a1 a2 k, LeO (turnspitlaw11_LocksAlone.f k a0 a1 a2) (turnspitlaw11_LocksAlone.f (k + 1) a0 a1 a2) := by
  intro a0 a1 a2 k
  obtain ⟨ih0, ih1, ih2, ih3⟩ := turnspitlaw11_LocksAlone.mono_l k
  unfold turnspitlaw11_LocksAlone.f
  repeat' first
      | (with_reducible exact ih0 _ _ _ _)
      | (with_reducible exact ih1 _ _ _ _ _)
      | (with_reducible exact ih2 _ _ _ _ _ _)
      | (with_reducible exact ih3 _ _ _ _)
      | (with_reducible exact turnspitlaw11_Picks.mono _ _ _)
      | (with_reducible exact LeO.refl _)
      | (with_reducible exact LeO.none _)
      | (with_reducible refine LeO.ite ?_ ?_)
      | (with_reducible refine LeO.bind ?_ (fun _ => ?_))
      | exact ih0 _ _ _ _
      | exact ih1 _ _ _ _ _
      | exact ih2 _ _ _ _ _ _
      | exact ih3 _ _ _ _
      | exact turnspitlaw11_Picks.mono _ _ _
      | exact LeO.none _
      | refine LeO.ite ?_ ?_
      | refine LeO.bind ?_ (fun _ => ?_)
set_option maxHeartbeats 8000000 in
set_option maxRecDepth 100000 in
theorem turnspitlaw11_LocksAlone.calls (k : Nat) (A0 : Option Addr) (c0 : Nat) (l0 : List Int) (a1 : Bool) (A2 : Option Addr) (c2 : Nat) (l2 : List Int) (r : Bool) (w : World) (hr0 : Kd.C (Kd.int .u16) w A0 l0.length l0) (hc0 : l0.length ≤ c0) (hr2 : Kd.C (Kd.int .u8) w A2 l2.length l2) (hc2 : l2.length ≤ c2) (h : turnspitlaw11_LocksAlone.f k l0 a1 l2 = some r) (hr_ : r = true := by rfl) :
    Calls Try.prog 8 #[.slice A0 l0.length c0, .bool a1, .slice A2 l2.length c2] w fun e w' => e = .returned (.bool r) ∧ Below w.heap.size w w' := by
  have hu24 := Try.underlying24
  have HR0 := Aside0.mk hr0
  have HC0 := Aside0.mk hc0
  clear hr0 hc0
  have HR2 := Aside0.mk hr2
  have HC2 := Aside0.mk hc2
  clear hr2 hc2
  have HB := Aside0.mk (Below.refl w.heap.size w)
  have H : ((turnspitlaw11_awake.f).bind fun t176 => (if t176 = true then ((turnspitlaw11_Jobs.f l0).bind fun t177 => ((turnspitlaw11_Picks.f k (t177.length : Int) l2).bind fun t180 => ((locks_Play.f 6 t177 a1 t180).bind fun bt183 => (if bt183.2.2.2 = 0 then (if (bt183.2.1.length : Int) = (t177.length : Int) then (turnspitlaw11_LocksAlone.j0 k t176 bt183.2.1 ((bt183.1.length : Int) != 6) bt183.1) else (turnspitlaw11_LocksAlone.j0 k t176 bt183.2.1 true bt183.1)) else (turnspitlaw11_LocksAlone.j0 k t176 bt183.2.1 true bt183.1))))) else (some false))) = some r := h
  clear h
  replace H := Option.bind_eq_some_iff.mp H
  obtain ⟨t176, A40, H⟩ := H
  replace H : (if t176 = true then ((turnspitlaw11_Jobs.f l0).bind fun t177 => ((turnspitlaw11_Picks.f k (t177.length : Int) l2).bind fun t180 => ((locks_Play.f 6 t177 a1 t180).bind fun bt183 => (if bt183.2.2.2 = 0 then (if (bt183.2.1.length : Int) = (t177.length : Int) then (turnspitlaw11_LocksAlone.j0 k t176 bt183.2.1 ((bt183.1.length : Int) != 6) bt183.1) else (turnspitlaw11_LocksAlone.j0 k t176 bt183.2.1 true bt183.1)) else (turnspitlaw11_LocksAlone.j0 k t176 bt183.2.1 true bt183.1))))) else (some false)) = some r := H
  have A4 := Aside0.mk A40
  clear A40
  by_cases c5 : t176 = true
  · subst c5
    have H1 : ((turnspitlaw11_Jobs.f l0).bind fun t177 => ((turnspitlaw11_Picks.f k (t177.length : Int) l2).bind fun t180 => ((locks_Play.f 6 t177 a1 t180).bind fun bt183 => (if bt183.2.2.2 = 0 then (if (bt183.2.1.length : Int) = (t177.length : Int) then (turnspitlaw11_LocksAlone.j0 k true bt183.2.1 ((bt183.1.length : Int) != 6) bt183.1) else (turnspitlaw11_LocksAlone.j0 k true bt183.2.1 true bt183.1)) else (turnspitlaw11_LocksAlone.j0 k true bt183.2.1 true bt183.1))))) = some r := by first | (rw [if_pos rfl] at H; exact H) | (rw [if_pos trivial] at H; exact H)
    clear H
    have H := H1
    clear H1
    replace H := Option.bind_eq_some_iff.mp H
    obtain ⟨t177, A60, H⟩ := H
    replace H : ((turnspitlaw11_Picks.f k (t177.length : Int) l2).bind fun t180 => ((locks_Play.f 6 t177 a1 t180).bind fun bt183 => (if bt183.2.2.2 = 0 then (if (bt183.2.1.length : Int) = (t177.length : Int) then (turnspitlaw11_LocksAlone.j0 k true bt183.2.1 ((bt183.1.length : Int) != 6) bt183.1) else (turnspitlaw11_LocksAlone.j0 k true bt183.2.1 true bt183.1)) else (turnspitlaw11_LocksAlone.j0 k true bt183.2.1 true bt183.1)))) = some r := H
    have A6 := Aside0.mk A60
    clear A60
    replace H := Option.bind_eq_some_iff.mp H
    obtain ⟨t180, A70, H⟩ := H
    replace H : ((locks_Play.f 6 t177 a1 t180).bind fun bt183 => (if bt183.2.2.2 = 0 then (if (bt183.2.1.length : Int) = (t177.length : Int) then (turnspitlaw11_LocksAlone.j0 k true bt183.2.1 ((bt183.1.length : Int) != 6) bt183.1) else (turnspitlaw11_LocksAlone.j0 k true bt183.2.1 true bt183.1)) else (turnspitlaw11_LocksAlone.j0 k true bt183.2.1 true bt183.1))) = some r := H
    have A7 := Aside0.mk A70
    clear A70
    replace H := Option.bind_eq_some_iff.mp H
    obtain ⟨⟨t183, t186, t189, t192⟩, A80, H⟩ := H
    replace H : (if t192 = 0 then (if (t186.length : Int) = (t177.length : Int) then (turnspitlaw11_LocksAlone.j0 k true t186 ((t183.length : Int) != 6) t183) else (turnspitlaw11_LocksAlone.j0 k true t186 true t183)) else (turnspitlaw11_LocksAlone.j0 k true t186 true t183)) = some r := H
    have A8 := Aside0.mk A80
    clear A80
    have HC9 := Aside0.mk H
    clear H
    go_enter Try.func8, Try.ntmps8
    go_upto_region 6 with (first | ((with_reducible refine gate_callee (f := 10) rfl ?_); refine goesL_ (some 18) rfl rfl Try.func10 (by kernel_rfl) rfl #[] rfl (by (try simp only [List.map_toArray, List.map_cons, List.map_nil]); first | done | rfl | (simp only [List.length_drop, List.length_take]; rfl)) ?_; (with_reducible refine (turnspitlaw11_awake.calls  true _ A4.out).mono ?_); rintro e w10 ⟨rfl, hb⟩; refine ⟨_, rfl, ?_⟩; have n0_ := Aside0.mk (below_step (by repeat (first | (with_reducible first | exact HB.out | apply below_alloc | apply pw_below_drewN | apply below_drew1) | exact HB.out)) hb); clear HB; have HB := n0_; clear n0_; (try clear hb); (try clear hb2); (try clear hk); (try clear hi)) | ((with_reducible refine gate_callee (f := 26) rfl ?_); refine goesL_ (some 22) rfl rfl Try.func26 (by kernel_rfl) rfl #[.slice A0 l0.length c0] rfl (by (try simp only [List.map_toArray, List.map_cons, List.map_nil]); first | done | rfl | (simp only [List.length_drop, List.length_take]; rfl)) ?_; (with_reducible refine (turnspitlaw11_Jobs.calls _ _ l0 t177 _ ?side1 ?side2 A6.out).mono ?_); (case side1 => repeat (first | exact (Kd.C_below HR0.out HB.out) | (with_reducible refine Kd.C_alloc ?_ _) | (with_reducible refine Kd.C_drewN ?_ _) | (with_reducible refine Kd.C_drew ?_))); (case side2 => exact HC0.out); rintro e w11 ⟨v178, rfl, ho0, hb⟩; refine ⟨_, rfl, ?_⟩; have n0_ := Aside0.mk (Kd.N_lower (Kd.N_mono (ok' := fun k_ => True) ho0 (fun k_ hk_ => trivial)) (below_size (by repeat (first | (with_reducible first | exact HB.out | apply below_alloc | apply pw_below_drewN | apply below_drew1) | exact HB.out)))); have n1_ := Aside0.mk (below_step (by repeat (first | (with_reducible first | exact HB.out | apply below_alloc | apply pw_below_drewN | apply below_drew1) | exact HB.out)) hb); clear HB; have HO179 := n0_; have HB := n1_; clear n0_ n1_; (try clear hb); (try clear hb2); (try clear hk); (try clear hi); (try clear ho0); obtain ⟨Ao12, co12, eo12⟩ := Kd.N_slice HO179.out; subst eo12) | ((with_reducible refine gate_callee (f := 27) rfl ?_); refine goesL_ (some 29) rfl rfl Try.func27 (by kernel_rfl) rfl #[.int .i64 (t177.length : Int), .slice A2 l2.length c2] rfl (by (try simp only [List.map_toArray, List.map_cons, List.map_nil]); first | done | rfl | (simp only [List.length_drop, List.length_take]; rfl)) ?_; (with_reducible refine (turnspitlaw11_Picks.calls k (t177.length : Int) _ _ l2 t180 _ ?side1 ?side2 A7.out).mono ?_); (case side1 => repeat (first | exact (Kd.C_below HR2.out HB.out) | (with_reducible refine Kd.C_alloc ?_ _) | (with_reducible refine Kd.C_drewN ?_ _) | (with_reducible refine Kd.C_drew ?_))); (case side2 => exact HC2.out); rintro e w13 ⟨v181, rfl, ho0, hb⟩; refine ⟨_, rfl, ?_⟩; have n0_ := Aside0.mk (Kd.N_elder' (by (with_reducible repeat (first | apply Kd.N_alloc | apply Kd.N_drewN | apply Kd.N_drew)); exact HO179.out) (Kd.R_base ho0) hb); have n1_ := Aside0.mk (Kd.R_lower ho0 (below_size (by repeat (first | (with_reducible first | exact HB.out | apply below_alloc | apply pw_below_drewN | apply below_drew1) | exact HB.out)))); have n2_ := Aside0.mk (below_step (by repeat (first | (with_reducible first | exact HB.out | apply below_alloc | apply pw_below_drewN | apply below_drew1) | exact HB.out)) hb); clear HO179; clear HB; have HO179 := n0_; have HO182 := n1_; have HB := n2_; clear n0_ n1_ n2_; (try clear hb); (try clear hb2); (try clear hk); (try clear hi); (try clear ho0); obtain ⟨Ao14, co14, eo14⟩ := Kd.R_slice HO182.out; subst eo14) | ((with_reducible refine gate_callee (f := 23) rfl ?_); refine goesL_ (some 30) rfl rfl Try.func23 (by kernel_rfl) rfl #[.int .i64 6, .slice Ao12 t177.length co12, .bool a1, .slice Ao14 t180.length co14] rfl (by (try simp only [List.map_toArray, List.map_cons, List.map_nil]); first | done | rfl | (simp only [List.length_drop, List.length_take]; rfl)) ?_; (with_reducible refine (locks_Play.calls 6 _ _ t177 a1 _ _ t180 t183 t186 t189 t192 _ ?side1 ?side2 ?side3 ?side4 A8.out).mono ?_); (case side1 => repeat (first | exact (Kd.N_reads' HO179.out).2.2 | (with_reducible refine Kd.C_alloc ?_ _) | (with_reducible refine Kd.C_drewN ?_ _) | (with_reducible refine Kd.C_drew ?_))); (case side2 => exact (Kd.N_reads' HO179.out).2.1); (case side3 => repeat (first | exact (Kd.R_reads' HO182.out).2.2 | (with_reducible refine Kd.C_alloc ?_ _) | (with_reducible refine Kd.C_drewN ?_ _) | (with_reducible refine Kd.C_drew ?_))); (case side4 => exact (Kd.R_reads' HO182.out).2.1); rintro e w15 ⟨v184, v187, v190, rfl, ho0, ho1, ho2, hb⟩; refine ⟨_, rfl, ?_⟩; have n0_ := Aside0.mk (Kd.N_mono (Kd.N_told (Kd.N_told (Kd.N_told (Kd.N_old (by (with_reducible repeat (first | apply Kd.N_alloc | apply Kd.N_drewN | apply Kd.N_drew)); exact HO179.out) hb) (Kd.R_base ho0)) (Kd.S_base ho1)) (Kd.R_base ho2)) (fun _ h_ => h_.1)); have n1_ := Aside0.mk (Kd.R_mono (Kd.R_told (Kd.R_told (Kd.R_old (by (with_reducible repeat (first | apply Kd.R_alloc | apply Kd.R_drewN | apply Kd.R_drew)); exact HO182.out) hb) (Kd.R_base ho0)) (Kd.R_base ho2)) (fun _ h_ => h_.1)); have n2_ := Aside0.mk (Kd.R_lower (Kd.R_new' ho0 (Kd.R_lt (by (with_reducible repeat (first | apply Kd.R_alloc | apply Kd.R_drewN | apply Kd.R_drew)); exact HO182.out))) (below_size (by repeat (first | (with_reducible first | exact HB.out | apply below_alloc | apply pw_below_drewN | apply below_drew1) | exact HB.out)))); have n3_ := Aside0.mk (Kd.N_lower (Kd.N_mono (ok' := fun k_ => some k_ ≠ (v184 : Value).ownBlock ∧ some k_ ≠ (v190 : Value).ownBlock ∧ some k_ ≠ (.slice Ao12 t177.length co12 : Value).ownBlock ∧ some k_ ≠ (.slice Ao14 t180.length co14 : Value).ownBlock) (Kd.S_N (Kd.S_bound ho1)) (fun k_ hk_ => ⟨hk_.1.1, hk_.1.2, (Kd.fresh' (Kd.N_lt (by (with_reducible repeat (first | apply Kd.N_alloc | apply Kd.N_drewN | apply Kd.N_drew)); exact HO179.out)) k_ hk_.2.1), (Kd.fresh' (Kd.R_lt (by (with_reducible repeat (first | apply Kd.R_alloc | apply Kd.R_drewN | apply Kd.R_drew)); exact HO182.out)) k_ hk_.2.1)⟩)) (below_size (by repeat (first | (with_reducible first | exact HB.out | apply below_alloc | apply pw_below_drewN | apply below_drew1) | exact HB.out)))); have n4_ := Aside0.mk (Kd.R_lower (Kd.R_new' ho2 (Kd.R_lt (by (with_reducible repeat (first | apply Kd.R_alloc | apply Kd.R_drewN | apply Kd.R_drew)); exact HO182.out))) (below_size (by repeat (first | (with_reducible first | exact HB.out | apply below_alloc | apply pw_below_drewN | apply below_drew1) | exact HB.out)))); have n5_ := Aside0.mk (below_step (by repeat (first | (with_reducible first | exact HB.out | apply below_alloc | apply pw_below_drewN | apply below_drew1) | exact HB.out)) hb); clear HO179; clear HO182; clear HB; have HO179 := n0_; have HO182 := n1_; have HO185 := n2_; have HO188 := n3_; have HO191 := n4_; have HB := n5_; clear n0_ n1_ n2_ n3_ n4_ n5_; (try clear hb); (try clear hb2); (try clear hk); (try clear hi); (try clear ho0); (try clear ho1); (try clear ho2)) | ((with_reducible refine gate_dst (N := 9) rfl ?_); (try (refine gate_guard (by rfl) ?_; dsimp only)); refine box_event ?hg (N := 9) ?hd (cs := #[.slice none 0 0]) (t := 24) ?hr ?_; (case hd => rfl); (case hg => rfl); (case hr => first | (go_simp; done) | (go_simp; rfl)); intro gb193 hg w16 hbox hb; have n0_ := Aside0.mk (Kd.N_below (Kd.N_elderB (by (with_reducible repeat (first | apply Kd.N_alloc | apply Kd.N_drewN | apply Kd.N_drew)); exact HO179.out) gb193 (Nat.le_of_eq hg.symm)) hb); have n1_ := Aside0.mk (Kd.R_below (by (with_reducible repeat (first | apply Kd.R_alloc | apply Kd.R_drewN | apply Kd.R_drew)); exact HO182.out) hb); have n2_ := Aside0.mk (Kd.R_below (by (with_reducible repeat (first | apply Kd.R_alloc | apply Kd.R_drewN | apply Kd.R_drew)); exact HO185.out) hb); have n3_ := Aside0.mk (Kd.N_below (Kd.N_elderB (by (with_reducible repeat (first | apply Kd.N_alloc | apply Kd.N_drewN | apply Kd.N_drew)); exact HO188.out) gb193 (Nat.le_of_eq hg.symm)) hb); have n4_ := Aside0.mk (Kd.R_below (by (with_reducible repeat (first | apply Kd.R_alloc | apply Kd.R_drewN | apply Kd.R_drew)); exact HO191.out) hb); have n5_ := Aside0.mk (below_step (by repeat (first | (with_reducible first | exact HB.out | apply below_alloc | apply pw_below_drewN | apply below_drew1) | exact HB.out)) hb); have n6_ := Aside0.mk (hbox); have n7_ := Aside0.mk ((by rw [hg]; exact (below_size (by repeat (first | (with_reducible first | exact HB.out | apply below_alloc | apply pw_below_drewN | apply below_drew1) | exact HB.out))) : w.heap.size ≤ gb193)); have n8_ := Aside0.mk ((by rw [hg]; exact (below_size (by repeat (first | (with_reducible first | exact HB.out | apply below_alloc | apply pw_below_drewN | apply below_drew1) | exact HB.out))) : w.heap.size ≤ gb193)); clear HO179; clear HO182; clear HO185; clear HO188; clear HO191; clear HB; have HO179 := n0_; have HO182 := n1_; have HO185 := n2_; have HO188 := n3_; have HO191 := n4_; have HB := n5_; have BK193 := n6_; have GW193 := n7_; have GE193 := n8_; clear n0_ n1_ n2_ n3_ n4_ n5_ n6_ n7_ n8_; clear hb hbox hg; obtain ⟨Ao17, co17, eo17⟩ := Kd.R_slice HO185.out; subst eo17; have hcz18_0 : w16.cell? ⟨gb193, 0, none⟩ = some (.slice none 0 0) := (blk_cell BK193.out 0).trans rfl; have hfz18_0 := blk_frozen BK193.out 0))
    (try simp only [Act.put, List.setIfInBounds_toArray, List.set_cons_zero, List.set_cons_succ])
    go_cut [49] (fun v49 wc => ∃ (kq : Nat) (x49_8 : Bool), v49 = .bool x49_8 ∧ Aside0 (turnspitlaw11_LocksAlone.j0 kq true t186 x49_8 t183 = some r) ∧ Aside0 (kq ≤ k) ∧ Aside0 (Kd.N k52 52 wc w.heap.size (fun k_ => some k_ ≠ ((.slice Ao17 t183.length co17) : Value).ownBlock ∧ k_ ≠ gb193) v187 t186) ∧ Aside0 (Kd.R (Kd.int .i64) 3 wc w.heap.size (fun _ => True) (.slice Ao17 t183.length co17) t183) ∧ Aside0 (wc.heap[gb193]? = some (.cells #[(.slice Ao17 t183.length co17)] 24 (0, 0))) ∧ Aside0 (Below w.heap.size w wc))
    case first =>
      have H := HC9.out
      clear HC9
      by_cases c19 : t192 = 0
      · rw [if_pos c19] at H
        have c19b0 : (t192 == 0) = true := beq_iff_eq.mpr c19
        have c19b1 : (t192 != 0) = false := bne_eq_false_iff_eq.mpr c19
        clear c19
        (first | rw [c19b0] | (simp only [i64_w, i32_w]; rw [c19b0]) | skip)
        by_cases c20 : (t186.length : Int) = (t177.length : Int)
        · rw [if_pos c20] at H
          have c20b0 : ((t186.length : Int) == (t177.length : Int)) = true := beq_iff_eq.mpr c20
          have c20b1 : ((t186.length : Int) != (t177.length : Int)) = false := bne_eq_false_iff_eq.mpr c20
          have c20b2 : (t186.length == t177.length) = true := by first | simpa using c20 | (simp at c20 ⊢; omega)
          clear c20
          have H' := Aside0.mk H
          clear H
          obtain ⟨Ao21, co21, eo21⟩ := Kd.N_slice HO188.out
          subst eo21
          have hcz22_0 : w16.cell? ⟨gb193, 0, none⟩ = some (.slice none 0 0) := (blk_cell BK193.out 0).trans rfl
          have hfz22_0 := blk_frozen BK193.out 0
          go_wp2
          go_meet
          case rel => exact ⟨_, (((t183.length : Int) != 6)), (by first | rfl | (simp; done) | (simp [*]; done)), H', ⟨by first | omega | exact Nat.le_refl _⟩, ⟨by (with_reducible repeat (first | apply Kd.N_alloc | apply Kd.N_drewN | apply Kd.N_drew)); exact Kd.N_mono (Kd.N_far (p := ⟨gb193, 0, none⟩) (Kd.N_mono HO188.out (fun k_ hk => (⟨hk, hk.2⟩ : _ ∧ k_ ≠ gb193))) (fun _ hk => hk.2) (.slice Ao17 t183.length co17)) (fun _ hk => ⟨hk.1.1.1, hk.1.2⟩)⟩, ⟨by (with_reducible repeat (first | apply Kd.R_alloc | apply Kd.R_drewN | apply Kd.R_drew)); exact Kd.R_mono (Kd.R_far (p := ⟨gb193, 0, none⟩) (Kd.R_types HO185.out BK193.out (by decide)) (fun _ hk => hk.2) (.slice Ao17 t183.length co17)) (fun _ hk => trivial)⟩, ⟨by (with_reducible repeat (first | refine blk_drewN ?_ _ | refine blk_drew ?_ | refine blk_alloc ?_ _)); refine blk_put (cs := #[.slice none 0 0]) ?_ 0 _ rfl; (with_reducible repeat (first | refine blk_drewN ?_ _ | refine blk_drew ?_ | refine blk_alloc ?_ _)); exact BK193.out⟩, ⟨by repeat (first | (with_reducible first | exact HB.out | apply below_alloc | apply pw_below_drewN | apply below_drew1 | refine below_set ?_ GE193.out) | exact HB.out)⟩⟩
        · rw [if_neg c20] at H
          have c20b0 : ((t186.length : Int) == (t177.length : Int)) = false := beq_eq_false_iff_ne.mpr c20
          have c20b1 : ((t186.length : Int) != (t177.length : Int)) = true := bne_iff_ne.mpr c20
          have c20b2 : (t186.length == t177.length) = false := by first | simpa using c20 | (simp at c20 ⊢; omega)
          have H' := Aside0.mk H
          clear H
          obtain ⟨Ao23, co23, eo23⟩ := Kd.N_slice HO188.out
          subst eo23
          go_wp2
          go_meet
          case rel => exact ⟨_, (true), (by first | rfl | (simp; done) | (simp [*]; done)), H', ⟨by first | omega | exact Nat.le_refl _⟩, ⟨by (with_reducible repeat (first | apply Kd.N_alloc | apply Kd.N_drewN | apply Kd.N_drew)); exact Kd.N_mono (Kd.N_far (p := ⟨gb193, 0, none⟩) (Kd.N_mono HO188.out (fun k_ hk => (⟨hk, hk.2⟩ : _ ∧ k_ ≠ gb193))) (fun _ hk => hk.2) (.slice Ao17 t183.length co17)) (fun _ hk => ⟨hk.1.1.1, hk.1.2⟩)⟩, ⟨by (with_reducible repeat (first | apply Kd.R_alloc | apply Kd.R_drewN | apply Kd.R_drew)); exact Kd.R_mono (Kd.R_far (p := ⟨gb193, 0, none⟩) (Kd.R_types HO185.out BK193.out (by decide)) (fun _ hk => hk.2) (.slice Ao17 t183.length co17)) (fun _ hk => trivial)⟩, ⟨by (with_reducible repeat (first | refine blk_drewN ?_ _ | refine blk_drew ?_ | refine blk_alloc ?_ _)); refine blk_put (cs := #[.slice none 0 0]) ?_ 0 _ rfl; (with_reducible repeat (first | refine blk_drewN ?_ _ | refine blk_drew ?_ | refine blk_alloc ?_ _)); exact BK193.out⟩, ⟨by repeat (first | (with_reducible first | exact HB.out | apply below_alloc | apply pw_below_drewN | apply below_drew1 | refine below_set ?_ GE193.out) | exact HB.out)⟩⟩
      · rw [if_neg c19] at H
        have c19b0 : (t192 == 0) = false := beq_eq_false_iff_ne.mpr c19
        have c19b1 : (t192 != 0) = true := bne_iff_ne.mpr c19
        (first | rw [c19b0] | (simp only [i64_w, i32_w]; rw [c19b0]) | skip)
        have H' := Aside0.mk H
        clear H
        go_wp2
        go_meet
        case rel => exact ⟨_, (true), (by first | rfl | (simp; done) | (simp [*]; done)), H', ⟨by first | omega | exact Nat.le_refl _⟩, ⟨by (with_reducible repeat (first | apply Kd.N_alloc | apply Kd.N_drewN | apply Kd.N_drew)); exact Kd.N_mono (Kd.N_far (p := ⟨gb193, 0, none⟩) (Kd.N_mono HO188.out (fun k_ hk => (⟨hk, hk.2⟩ : _ ∧ k_ ≠ gb193))) (fun _ hk => hk.2) (.slice Ao17 t183.length co17)) (fun _ hk => ⟨hk.1.1.1, hk.1.2⟩)⟩, ⟨by (with_reducible repeat (first | apply Kd.R_alloc | apply Kd.R_drewN | apply Kd.R_drew)); exact Kd.R_mono (Kd.R_far (p := ⟨gb193, 0, none⟩) (Kd.R_types HO185.out BK193.out (by decide)) (fun _ hk => hk.2) (.slice Ao17 t183.length co17)) (fun _ hk => trivial)⟩, ⟨by (with_reducible repeat (first | refine blk_drewN ?_ _ | refine blk_drew ?_ | refine blk_alloc ?_ _)); refine blk_put (cs := #[.slice none 0 0]) ?_ 0 _ rfl; (with_reducible repeat (first | refine blk_drewN ?_ _ | refine blk_drew ?_ | refine blk_alloc ?_ _)); exact BK193.out⟩, ⟨by repeat (first | (with_reducible first | exact HB.out | apply below_alloc | apply pw_below_drewN | apply below_drew1 | refine below_set ?_ GE193.out) | exact HB.out)⟩⟩
    case rest =>
      clear HC9
      try clear c1
      try clear c2
      try clear p2
      try clear c5
      try clear c8
      try clear c10
      try clear c19
      try clear c19b0
      try clear c19b1
      try clear c20
      try clear c20b0
      try clear c20b1
      try clear c20b2
      try clear c23
      try clear hcz18_0
      try clear hcz22_0
      try clear hfz18_0
      try clear hfz22_0
      obtain ⟨kq, x49_8, rfl, HA, HJ8, HO_10, HO_194000, BK193, HB⟩ := hcut
      cases kq with
      | zero => exact absurd HA.out (by simp [turnspitlaw11_LocksAlone.j0])
      | succ kj8 =>
        have H := HA.out
        clear HA
        simp only [turnspitlaw11_LocksAlone.j0] at H
        by_cases c24 : x49_8 = true
        · subst c24
          have H1 : (some false) = some r := by first | (rw [if_pos rfl] at H; exact H) | (rw [if_pos trivial] at H; exact H)
          clear H
          have H := H1
          clear H1
          rw [hr_] at H; simp at H
        · replace c24 := Bool.eq_false_iff.mpr c24
          subst c24
          have H1 : (turnspitlaw11_LocksAlone.l0 kj8 true t186 0 0 t183) = some r := by first | (rw [if_neg (show ¬ (false = true) by decide)] at H; exact H) | (rw [if_neg (fun h => h)] at H; exact H)
          clear H
          have H := H1
          clear H1
          have H' := Aside0.mk H
          clear H
          go_wp2
          go_loopg [13, 14] kj8 (fun kq v13 v14 w' => ∃ (x13_2 : Int) (x14_2 : Int), v13 = .int .i64 x13_2 ∧ v14 = .int .i64 x14_2 ∧ Aside0 (turnspitlaw11_LocksAlone.l0 kq true t186 x13_2 x14_2 t183 = some r) ∧ Aside0 (kq ≤ kj8) ∧ Aside0 (Kd.N k52 52 w' w.heap.size (fun k_ => some k_ ≠ ((.slice Ao17 t183.length co17) : Value).ownBlock ∧ k_ ≠ gb193) v187 t186) ∧ Aside0 (Kd.R (Kd.int .i64) 3 w' w.heap.size (fun _ => True) (.slice Ao17 t183.length co17) t183) ∧ Aside0 (w'.heap[gb193]? = some (.cells #[(.slice Ao17 t183.length co17)] 24 (0, 0))) ∧ Aside0 (Below w.heap.size w w'))
          case atStart => exact ⟨(0), (0), (by first | rfl | (simp; done) | (simp [*]; done)), (by first | rfl | (simp; done) | (simp [*]; done)), H', ⟨Nat.le_refl _⟩, ⟨by (with_reducible repeat (first | apply Kd.N_alloc | apply Kd.N_drewN | apply Kd.N_drew)); exact HO_10.out⟩, ⟨by (with_reducible repeat (first | apply Kd.R_alloc | apply Kd.R_drewN | apply Kd.R_drew)); exact HO_194000.out⟩, ⟨by (with_reducible repeat (first | refine blk_drewN ?_ _ | refine blk_drew ?_ | refine blk_alloc ?_ _)); exact BK193.out⟩, ⟨by repeat (first | (with_reducible first | exact HB.out | apply below_alloc | apply pw_below_drewN | apply below_drew1 | refine below_set ?_ GE193.out) | exact HB.out)⟩⟩
          case round =>
            clear H'
            try clear c1
            try clear c2
            try clear p2
            try clear c5
            try clear c8
            try clear c10
            try clear c19
            try clear c19b0
            try clear c19b1
            try clear c20
            try clear c20b0
            try clear c20b1
            try clear c20b2
            try clear c23
            try clear c24
            try clear hcz18_0
            try clear hcz22_0
            try clear hfz18_0
            try clear hfz22_0
            try clear p2
            obtain ⟨x13_2, x14_2, rfl, rfl, HA, HK2, HO_10, HO_194000, BK193, HB⟩ := hrel
            cases gk with
            | zero => exact absurd HA.out (by simp [turnspitlaw11_LocksAlone.l0])
            | succ k2 =>
              have H := HA.out
              clear HA
              simp only [turnspitlaw11_LocksAlone.l0] at H
              by_cases c25 : x14_2 < (t186.length : Int)
              · rw [if_pos c25] at H
                have c25b0 : decide (x14_2 < (t186.length : Int)) = true := decide_eq_true c25
                clear c25
                have H' := Aside0.mk H
                clear H
                obtain ⟨Ao26, co26, eo26⟩ := Kd.N_slice HO_10.out
                subst eo26
                go_wp2
                go_loopg [13, 15] k2 (fun kq v13 v15 w' => ∃ (x13_3 : Int) (x15_3 : Int), v13 = .int .i64 x13_3 ∧ v15 = .int .i64 x15_3 ∧ Aside0 (turnspitlaw11_LocksAlone.l1 kq true t186 x13_3 x14_2 x15_3 t183 = some r) ∧ Aside0 (kq ≤ k2) ∧ Aside0 (Kd.N k52 52 w' w.heap.size (fun k_ => some k_ ≠ ((.slice Ao17 t183.length co17) : Value).ownBlock ∧ k_ ≠ gb193) (.slice Ao26 t186.length co26) t186) ∧ Aside0 (Kd.R (Kd.int .i64) 3 w' w.heap.size (fun _ => True) (.slice Ao17 t183.length co17) t183) ∧ Aside0 (w'.heap[gb193]? = some (.cells #[(.slice Ao17 t183.length co17)] 24 (0, 0))) ∧ Aside0 (Below w.heap.size w w'))
                case atStart => exact ⟨(x13_2), (0), (by first | rfl | (simp; done) | (simp [*]; done)), (by first | rfl | (simp; done) | (simp [*]; done)), H', ⟨Nat.le_refl _⟩, ⟨by (with_reducible repeat (first | apply Kd.N_alloc | apply Kd.N_drewN | apply Kd.N_drew)); exact HO_10.out⟩, ⟨by (with_reducible repeat (first | apply Kd.R_alloc | apply Kd.R_drewN | apply Kd.R_drew)); exact HO_194000.out⟩, ⟨by (with_reducible repeat (first | refine blk_drewN ?_ _ | refine blk_drew ?_ | refine blk_alloc ?_ _)); exact BK193.out⟩, ⟨by repeat (first | (with_reducible first | exact HB.out | apply below_alloc | apply pw_below_drewN | apply below_drew1 | refine below_set ?_ GE193.out) | exact HB.out)⟩⟩
                case round =>
                  clear H'
                  try clear c1
                  try clear c2
                  try clear p2
                  try clear c5
                  try clear c8
                  try clear c10
                  try clear c19
                  try clear c19b0
                  try clear c19b1
                  try clear c20
                  try clear c20b0
                  try clear c20b1
                  try clear c20b2
                  try clear c23
                  try clear c24
                  try clear c25
                  try clear c25b0
                  try clear c26
                  try clear hcz18_0
                  try clear hcz22_0
                  try clear hfz18_0
                  try clear hfz22_0
                  try clear p2
                  obtain ⟨x13_3, x15_3, rfl, rfl, HA, HK3, HO_10, HO_194000, BK193, HB⟩ := hrel
                  cases gk with
                  | zero => exact absurd HA.out (by simp [turnspitlaw11_LocksAlone.l1])
                  | succ k3 =>
                    have H := HA.out
                    clear HA
                    simp only [turnspitlaw11_LocksAlone.l1] at H
                    by_cases c27 : 0 ≤ x14_2
                    · rw [if_pos c27] at H
                      have c27b0 : decide (0 ≤ x14_2) = true := decide_eq_true c27
                      clear c27
                      by_cases c28 : x14_2 < (t186.length : Int)
                      · rw [if_pos c28] at H
                        have c28b0 : decide (x14_2 < (t186.length : Int)) = true := decide_eq_true c28
                        clear c28
                        by_cases c29 : x15_3 < (((rd_T52 t186 x14_2).f0).length : Int)
                        · rw [if_pos c29] at H
                          have c29b0 : decide (x15_3 < (((rd_T52 t186 x14_2).f0).length : Int)) = true := decide_eq_true c29
                          clear c29
                          by_cases c30 : 0 ≤ x15_3
                          · rw [if_pos c30] at H
                            have c30b0 : decide (0 ≤ x15_3) = true := decide_eq_true c30
                            clear c30
                            by_cases c31 : (rd ((rd_T52 t186 x14_2).f0) x15_3) < 0
                            · rw [if_pos c31] at H
                              have c31b0 : decide ((rd ((rd_T52 t186 x14_2).f0) x15_3) < 0) = true := decide_eq_true c31
                              clear c31
                              rw [hr_] at H; simp at H
                            · rw [if_neg c31] at H
                              have c31b0 : decide ((rd ((rd_T52 t186 x14_2).f0) x15_3) < 0) = false := decide_eq_false c31
                              clear c31
                              by_cases c32 : (rd ((rd_T52 t186 x14_2).f0) x15_3) > 5
                              · rw [if_pos c32] at H
                                have c32b0 : decide (5 < (rd ((rd_T52 t186 x14_2).f0) x15_3)) = true := decide_eq_true c32
                                clear c32
                                rw [hr_] at H; simp at H
                              · rw [if_neg c32] at H
                                have c32b0 : decide (5 < (rd ((rd_T52 t186 x14_2).f0) x15_3)) = false := decide_eq_false c32
                                clear c32
                                by_cases c33 : 0 ≤ (rd ((rd_T52 t186 x14_2).f0) x15_3)
                                · rw [if_pos c33] at H
                                  have c33b0 : decide (0 ≤ (rd ((rd_T52 t186 x14_2).f0) x15_3)) = true := decide_eq_true c33
                                  clear c33
                                  by_cases c34 : (rd ((rd_T52 t186 x14_2).f0) x15_3) < (t183.length : Int)
                                  · rw [if_pos c34] at H
                                    have c34b0 : decide ((rd ((rd_T52 t186 x14_2).f0) x15_3) < (t183.length : Int)) = true := decide_eq_true c34
                                    clear c34
                                    by_cases c35 : (rd t183 (rd ((rd_T52 t186 x14_2).f0) x15_3)) = x14_2
                                    · rw [if_pos c35] at H
                                      have c35b0 : ((rd t183 (rd ((rd_T52 t186 x14_2).f0) x15_3)) == x14_2) = true := beq_iff_eq.mpr c35
                                      have c35b1 : ((rd t183 (rd ((rd_T52 t186 x14_2).f0) x15_3)) != x14_2) = false := bne_eq_false_iff_eq.mpr c35
                                      clear c35
                                      by_cases c36 : (rd ((rd_T52 t186 x14_2).f0) x15_3) = ((rd_T52 t186 x14_2).f1)
                                      · rw [if_pos c36] at H
                                        have c36b0 : ((rd ((rd_T52 t186 x14_2).f0) x15_3) == ((rd_T52 t186 x14_2).f1)) = true := beq_iff_eq.mpr c36
                                        have c36b1 : ((rd ((rd_T52 t186 x14_2).f0) x15_3) != ((rd_T52 t186 x14_2).f1)) = false := bne_eq_false_iff_eq.mpr c36
                                        clear c36
                                        rw [hr_] at H; simp at H
                                      · rw [if_neg c36] at H
                                        have c36b0 : ((rd ((rd_T52 t186 x14_2).f0) x15_3) == ((rd_T52 t186 x14_2).f1)) = false := beq_eq_false_iff_ne.mpr c36
                                        have c36b1 : ((rd ((rd_T52 t186 x14_2).f0) x15_3) != ((rd_T52 t186 x14_2).f1)) = true := bne_iff_ne.mpr c36
                                        have H' := Aside0.mk H
                                        clear H
                                        have p194 : 0 ≤ (x14_2 : Int) := of_decide_eq_true (by first | (with_reducible assumption) | assumption)
                                        have q194 : x14_2 < (t186.length : Int) := of_decide_eq_true (by first | (with_reducible assumption) | assumption)
                                        obtain ⟨ad194, A194_0, c194_0, e194, hx194_0, hx194_1, hl194_0, hi194_0⟩ := at_T52 (Kd.N_reads' HO_10.out).2.2 x14_2 p194 q194
                                        cases e194
                                        obtain ⟨ce194, hce194, hMe194, hcc194⟩ := Kd.N_get HO_10.out z52 x14_2 p194 (by first | exact q194 | exact of_decide_eq_true (by first | (with_reducible assumption) | assumption) | (have e_ := (Kd.N_reads' HO_10.out).1; omega))
                                        obtain ⟨ua194_0, uc194_0, rfl, ul194_0, ge194_0⟩ := k52_openF hMe194
                                        have hv194_0 := hcc194 0 _ rfl
                                        rw [Nat.add_zero] at hv194_0
                                        replace hv194_0 := Option.some.inj (hv194_0.symm.trans hx194_0)
                                        injection hv194_0 with hva_ hvn_ hvc_
                                        rw [hva_] at ge194_0
                                        rw [hvc_] at ul194_0
                                        have HL194_0 := Aside0.mk (show Kd.V (Kd.int .i64) 3 _ w.heap.size _ _ ((rd_T52 t186 x14_2).f0) from Kd.V_mk ul194_0 ge194_0)
                                        clear hva_ hvn_ hvc_ ge194_0 ul194_0
                                        clear hcc194 hce194
                                        have HR194_0 := Aside0.mk hi194_0
                                        have HC194_0 := Aside0.mk hl194_0
                                        clear hi194_0 hl194_0
                                        replace p194 := eq_true p194
                                        replace q194 := eq_true q194
                                        have p195 : 0 ≤ (x14_2 : Int) := of_decide_eq_true (by first | (with_reducible assumption) | assumption)
                                        have q195 : x14_2 < (t186.length : Int) := of_decide_eq_true (by first | (with_reducible assumption) | assumption)
                                        obtain ⟨ad195, A195_0, c195_0, e195, hx195_0, hx195_1, hl195_0, hi195_0⟩ := at_T52 (Kd.N_reads' HO_10.out).2.2 x14_2 p195 q195
                                        obtain rfl : ad194 = ad195 := (by injection e195)
                                        obtain ⟨ce195, hce195, hMe195, hcc195⟩ := Kd.N_get HO_10.out z52 x14_2 p195 (by first | exact q195 | exact of_decide_eq_true (by first | (with_reducible assumption) | assumption) | (have e_ := (Kd.N_reads' HO_10.out).1; omega))
                                        obtain ⟨ua195_0, uc195_0, rfl, ul195_0, ge195_0⟩ := k52_openF hMe195
                                        have hv195_0 := hcc195 0 _ rfl
                                        rw [Nat.add_zero] at hv195_0
                                        replace hv195_0 := Option.some.inj (hv195_0.symm.trans hx195_0)
                                        injection hv195_0 with hva_ hvn_ hvc_
                                        rw [hva_] at ge195_0
                                        rw [hvc_] at ul195_0
                                        have HL195_0 := Aside0.mk (show Kd.V (Kd.int .i64) 3 _ w.heap.size _ _ ((rd_T52 t186 x14_2).f0) from Kd.V_mk ul195_0 ge195_0)
                                        clear hva_ hvn_ hvc_ ge195_0 ul195_0
                                        clear hcc195 hce195
                                        have HR195_0 := Aside0.mk hi195_0
                                        have HC195_0 := Aside0.mk hl195_0
                                        clear hi195_0 hl195_0
                                        replace p195 := eq_true p195
                                        replace q195 := eq_true q195
                                        have ea_ := Option.some.inj (hx194_0.symm.trans hx195_0)
                                        injection ea_ with ea_ en_ ec_
                                        subst ea_
                                        subst ec_
                                        clear en_
                                        have p196 : 0 ≤ (x15_3 : Int) := of_decide_eq_true (by first | (with_reducible assumption) | assumption)
                                        have q196 : x15_3 < (((rd_T52 t186 x14_2).f0).length : Int) := of_decide_eq_true (by first | (with_reducible assumption) | assumption)
                                        obtain ⟨ad196, e196, hx196_0⟩ := Kd.at_int (by repeat (first | (with_reducible exact HR195_0.out) | (with_reducible refine Kd.C_alloc ?_ _) | (with_reducible refine Kd.C_drewN ?_ _) | (with_reducible refine Kd.C_drew ?_) | exact HR195_0.out)) x15_3 p196 q196
                                        cases e196
                                        replace p196 := eq_true p196
                                        replace q196 := eq_true q196
                                        have hcz38_0 : wr.cell? ⟨gb193, 0, none⟩ = some (.slice Ao17 t183.length co17) := (blk_cell BK193.out 0).trans rfl
                                        have hfz38_0 := blk_frozen BK193.out 0
                                        have p197 : 0 ≤ ((rd ((rd_T52 t186 x14_2).f0) x15_3) : Int) := of_decide_eq_true (by first | (with_reducible assumption) | assumption)
                                        have q197 : (rd ((rd_T52 t186 x14_2).f0) x15_3) < (t183.length : Int) := of_decide_eq_true (by first | (with_reducible assumption) | assumption)
                                        obtain ⟨ad197, e197, hx197_0⟩ := Kd.at_int (Kd.R_reads' HO_194000.out).2.2 (rd ((rd_T52 t186 x14_2).f0) x15_3) p197 q197
                                        cases e197
                                        replace p197 := eq_true p197
                                        replace q197 := eq_true q197
                                        have p198 : 0 ≤ (x14_2 : Int) := of_decide_eq_true (by first | (with_reducible assumption) | assumption)
                                        have q198 : x14_2 < (t186.length : Int) := of_decide_eq_true (by first | (with_reducible assumption) | assumption)
                                        obtain ⟨ad198, A198_0, c198_0, e198, hx198_0, hx198_1, hl198_0, hi198_0⟩ := at_T52 (Kd.N_reads' HO_10.out).2.2 x14_2 p198 q198
                                        obtain rfl : ad194 = ad198 := (by injection e198)
                                        obtain ⟨ce198, hce198, hMe198, hcc198⟩ := Kd.N_get HO_10.out z52 x14_2 p198 (by first | exact q198 | exact of_decide_eq_true (by first | (with_reducible assumption) | assumption) | (have e_ := (Kd.N_reads' HO_10.out).1; omega))
                                        obtain ⟨ua198_0, uc198_0, rfl, ul198_0, ge198_0⟩ := k52_openF hMe198
                                        have hv198_0 := hcc198 0 _ rfl
                                        rw [Nat.add_zero] at hv198_0
                                        replace hv198_0 := Option.some.inj (hv198_0.symm.trans hx198_0)
                                        injection hv198_0 with hva_ hvn_ hvc_
                                        rw [hva_] at ge198_0
                                        rw [hvc_] at ul198_0
                                        have HL198_0 := Aside0.mk (show Kd.V (Kd.int .i64) 3 _ w.heap.size _ _ ((rd_T52 t186 x14_2).f0) from Kd.V_mk ul198_0 ge198_0)
                                        clear hva_ hvn_ hvc_ ge198_0 ul198_0
                                        clear hcc198 hce198
                                        have HR198_0 := Aside0.mk hi198_0
                                        have HC198_0 := Aside0.mk hl198_0
                                        clear hi198_0 hl198_0
                                        replace p198 := eq_true p198
                                        replace q198 := eq_true q198
                                        have ea_ := Option.some.inj (hx194_0.symm.trans hx198_0)
                                        injection ea_ with ea_ en_ ec_
                                        subst ea_
                                        subst ec_
                                        clear en_
                                        go_wp2
                                        go_roundg k3
                                        case measure => have := HJ8.out; have := HK2.out; have := HK3.out; omega
                                        case rel => exact ⟨(wrap64 (x13_3 + 1)), (wrap64 (x15_3 + 1)), (by first | rfl | (simp; done) | (simp [*]; done)), (by first | rfl | (simp; done) | (simp [*]; done)), H', ⟨by have := HJ8.out; have := HK2.out; have := HK3.out; omega⟩, ⟨by (with_reducible repeat (first | apply Kd.N_alloc | apply Kd.N_drewN | apply Kd.N_drew)); exact HO_10.out⟩, ⟨by (with_reducible repeat (first | apply Kd.R_alloc | apply Kd.R_drewN | apply Kd.R_drew)); exact HO_194000.out⟩, ⟨by (with_reducible repeat (first | refine blk_drewN ?_ _ | refine blk_drew ?_ | refine blk_alloc ?_ _)); exact BK193.out⟩, ⟨by repeat (first | (with_reducible first | exact HB.out | apply below_alloc | apply pw_below_drewN | apply below_drew1 | refine below_set ?_ GE193.out) | exact HB.out)⟩⟩
                                    · rw [if_neg c35] at H
                                      have c35b0 : ((rd t183 (rd ((rd_T52 t186 x14_2).f0) x15_3)) == x14_2) = false := beq_eq_false_iff_ne.mpr c35
                                      have c35b1 : ((rd t183 (rd ((rd_T52 t186 x14_2).f0) x15_3)) != x14_2) = true := bne_iff_ne.mpr c35
                                      rw [hr_] at H; simp at H
                                  · rw [if_neg c34] at H
                                    exact absurd H (by simp)
                                · rw [if_neg c33] at H
                                  exact absurd H (by simp)
                          · rw [if_neg c30] at H
                            exact absurd H (by simp)
                        · rw [if_neg c29] at H
                          have c29b0 : decide (x15_3 < (((rd_T52 t186 x14_2).f0).length : Int)) = false := decide_eq_false c29
                          clear c29
                          have H' := Aside0.mk H
                          clear H
                          have p194 : 0 ≤ (x14_2 : Int) := of_decide_eq_true (by first | (with_reducible assumption) | assumption)
                          have q194 : x14_2 < (t186.length : Int) := of_decide_eq_true (by first | (with_reducible assumption) | assumption)
                          obtain ⟨ad194, A194_0, c194_0, e194, hx194_0, hx194_1, hl194_0, hi194_0⟩ := at_T52 (Kd.N_reads' HO_10.out).2.2 x14_2 p194 q194
                          cases e194
                          obtain ⟨ce194, hce194, hMe194, hcc194⟩ := Kd.N_get HO_10.out z52 x14_2 p194 (by first | exact q194 | exact of_decide_eq_true (by first | (with_reducible assumption) | assumption) | (have e_ := (Kd.N_reads' HO_10.out).1; omega))
                          obtain ⟨ua194_0, uc194_0, rfl, ul194_0, ge194_0⟩ := k52_openF hMe194
                          have hv194_0 := hcc194 0 _ rfl
                          rw [Nat.add_zero] at hv194_0
                          replace hv194_0 := Option.some.inj (hv194_0.symm.trans hx194_0)
                          injection hv194_0 with hva_ hvn_ hvc_
                          rw [hva_] at ge194_0
                          rw [hvc_] at ul194_0
                          have HL194_0 := Aside0.mk (show Kd.V (Kd.int .i64) 3 _ w.heap.size _ _ ((rd_T52 t186 x14_2).f0) from Kd.V_mk ul194_0 ge194_0)
                          clear hva_ hvn_ hvc_ ge194_0 ul194_0
                          clear hcc194 hce194
                          have HR194_0 := Aside0.mk hi194_0
                          have HC194_0 := Aside0.mk hl194_0
                          clear hi194_0 hl194_0
                          replace p194 := eq_true p194
                          replace q194 := eq_true q194
                          go_wp2
                          go_roundg k3
                          case measure => have := HJ8.out; have := HK2.out; have := HK3.out; omega
                          case rel => exact ⟨(x13_3), (wrap64 (x14_2 + 1)), (by first | rfl | (simp; done) | (simp [*]; done)), (by first | rfl | (simp; done) | (simp [*]; done)), H', ⟨by have := HJ8.out; have := HK2.out; have := HK3.out; omega⟩, ⟨by (with_reducible repeat (first | apply Kd.N_alloc | apply Kd.N_drewN | apply Kd.N_drew)); exact HO_10.out⟩, ⟨by (with_reducible repeat (first | apply Kd.R_alloc | apply Kd.R_drewN | apply Kd.R_drew)); exact HO_194000.out⟩, ⟨by (with_reducible repeat (first | refine blk_drewN ?_ _ | refine blk_drew ?_ | refine blk_alloc ?_ _)); exact BK193.out⟩, ⟨by repeat (first | (with_reducible first | exact HB.out | apply below_alloc | apply pw_below_drewN | apply below_drew1 | refine below_set ?_ GE193.out) | exact HB.out)⟩⟩
                      · rw [if_neg c28] at H
                        exact absurd H (by simp)
                    · rw [if_neg c27] at H
                      exact absurd H (by simp)
              · rw [if_neg c25] at H
                have c25b0 : decide (x14_2 < (t186.length : Int)) = false := decide_eq_false c25
                clear c25
                have H' := Aside0.mk H
                clear H
                obtain ⟨Ao40, co40, eo40⟩ := Kd.N_slice HO_10.out
                subst eo40
                go_wp2
                go_loopg [13, 17] k2 (fun kq v13 v17 w' => ∃ (x13_3 : Int) (x17_3 : Int), v13 = .int .i64 x13_3 ∧ v17 = .int .i64 x17_3 ∧ Aside0 (turnspitlaw11_LocksAlone.l2 kq true x13_3 x17_3 t183 = some r) ∧ Aside0 (kq ≤ k2) ∧ Aside0 (Kd.R (Kd.int .i64) 3 w' w.heap.size (fun _ => True) (.slice Ao17 t183.length co17) t183) ∧ Aside0 (w'.heap[gb193]? = some (.cells #[(.slice Ao17 t183.length co17)] 24 (0, 0))) ∧ Aside0 (Below w.heap.size w w'))
                case atStart => exact ⟨(x13_2), (0), (by first | rfl | (simp; done) | (simp [*]; done)), (by first | rfl | (simp; done) | (simp [*]; done)), H', ⟨Nat.le_refl _⟩, ⟨by (with_reducible repeat (first | apply Kd.R_alloc | apply Kd.R_drewN | apply Kd.R_drew)); exact HO_194000.out⟩, ⟨by (with_reducible repeat (first | refine blk_drewN ?_ _ | refine blk_drew ?_ | refine blk_alloc ?_ _)); exact BK193.out⟩, ⟨by repeat (first | (with_reducible first | exact HB.out | apply below_alloc | apply pw_below_drewN | apply below_drew1 | refine below_set ?_ GE193.out) | exact HB.out)⟩⟩
                case round =>
                  clear H'
                  try clear c1
                  try clear p1
                  try clear q1
                  try clear hx1
                  try clear c2
                  try clear p2
                  try clear c3
                  try clear c5
                  try clear p6
                  try clear c8
                  try clear c10
                  try clear c19
                  try clear c19b0
                  try clear c19b1
                  try clear p19
                  try clear q19
                  try clear hx19
                  try clear c20
                  try clear c20b0
                  try clear c20b1
                  try clear c20b2
                  try clear c23
                  try clear c24
                  try clear c25
                  try clear c25b0
                  try clear c26
                  try clear c27
                  try clear c27b0
                  try clear c28
                  try clear c28b0
                  try clear c29
                  try clear c29b0
                  try clear c30
                  try clear c30b0
                  try clear c31
                  try clear c31b0
                  try clear c32
                  try clear c32b0
                  try clear c33
                  try clear c33b0
                  try clear c34
                  try clear c34b0
                  try clear c35
                  try clear c35b0
                  try clear c35b1
                  try clear c36
                  try clear c36b0
                  try clear c36b1
                  try clear hcz18_0
                  try clear hcz22_0
                  try clear hcz37_0
                  try clear hcz38_0
                  try clear hcz39_0
                  try clear hfz18_0
                  try clear hfz22_0
                  try clear hfz37_0
                  try clear hfz38_0
                  try clear hfz39_0
                  try clear hx194_0
                  try clear hx194_1
                  try clear hx195_0
                  try clear hx195_1
                  try clear hx196_0
                  try clear hx197_0
                  try clear hx198_0
                  try clear hx198_1
                  try clear p194
                  try clear p195
                  try clear p196
                  try clear p197
                  try clear p198
                  try clear p2
                  try clear q194
                  try clear q195
                  try clear q196
                  try clear q197
                  try clear q198
                  obtain ⟨x13_3, x17_3, rfl, rfl, HA, HK3, HO_194000, BK193, HB⟩ := hrel
                  cases gk with
                  | zero => exact absurd HA.out (by simp [turnspitlaw11_LocksAlone.l2])
                  | succ k3 =>
                    have H := HA.out
                    clear HA
                    simp only [turnspitlaw11_LocksAlone.l2] at H
                    by_cases c41 : x17_3 < 6
                    · rw [if_pos c41] at H
                      have c41b0 : decide (x17_3 < 6) = true := decide_eq_true c41
                      clear c41
                      by_cases c42 : 0 ≤ x17_3
                      · rw [if_pos c42] at H
                        have c42b0 : decide (0 ≤ x17_3) = true := decide_eq_true c42
                        clear c42
                        by_cases c43 : x17_3 < (t183.length : Int)
                        · rw [if_pos c43] at H
                          have c43b0 : decide (x17_3 < (t183.length : Int)) = true := decide_eq_true c43
                          clear c43
                          by_cases c44 : (rd t183 x17_3) ≥ 0
                          · rw [if_pos c44] at H
                            have c44b0 : decide (0 ≤ (rd t183 x17_3)) = true := decide_eq_true c44
                            clear c44
                            have H' := Aside0.mk H
                            clear H
                            have hcz45_0 : wr.cell? ⟨gb193, 0, none⟩ = some (.slice Ao17 t183.length co17) := (blk_cell BK193.out 0).trans rfl
                            have hfz45_0 := blk_frozen BK193.out 0
                            have p199 : 0 ≤ (x17_3 : Int) := of_decide_eq_true (by first | (with_reducible assumption) | assumption)
                            have q199 : x17_3 < (t183.length : Int) := of_decide_eq_true (by first | (with_reducible assumption) | assumption)
                            obtain ⟨ad199, e199, hx199_0⟩ := Kd.at_int (Kd.R_reads' HO_194000.out).2.2 x17_3 p199 q199
                            cases e199
                            replace p199 := eq_true p199
                            replace q199 := eq_true q199
                            go_wp2
                            go_roundg k3
                            case measure => have := HJ8.out; have := HK2.out; have := HK3.out; omega
                            case rel => exact ⟨(wrap64 (x13_3 - 1)), (wrap64 (x17_3 + 1)), (by first | rfl | (simp; done) | (simp [*]; done)), (by first | rfl | (simp; done) | (simp [*]; done)), H', ⟨by have := HJ8.out; have := HK2.out; have := HK3.out; omega⟩, ⟨by (with_reducible repeat (first | apply Kd.R_alloc | apply Kd.R_drewN | apply Kd.R_drew)); exact HO_194000.out⟩, ⟨by (with_reducible repeat (first | refine blk_drewN ?_ _ | refine blk_drew ?_ | refine blk_alloc ?_ _)); exact BK193.out⟩, ⟨by repeat (first | (with_reducible first | exact HB.out | apply below_alloc | apply pw_below_drewN | apply below_drew1 | refine below_set ?_ GE193.out) | exact HB.out)⟩⟩
                          · rw [if_neg c44] at H
                            have c44b0 : decide (0 ≤ (rd t183 x17_3)) = false := decide_eq_false c44
                            clear c44
                            have H' := Aside0.mk H
                            clear H
                            have hcz46_0 : wr.cell? ⟨gb193, 0, none⟩ = some (.slice Ao17 t183.length co17) := (blk_cell BK193.out 0).trans rfl
                            have hfz46_0 := blk_frozen BK193.out 0
                            have p199 : 0 ≤ (x17_3 : Int) := of_decide_eq_true (by first | (with_reducible assumption) | assumption)
                            have q199 : x17_3 < (t183.length : Int) := of_decide_eq_true (by first | (with_reducible assumption) | assumption)
                            obtain ⟨ad199, e199, hx199_0⟩ := Kd.at_int (Kd.R_reads' HO_194000.out).2.2 x17_3 p199 q199
                            cases e199
                            replace p199 := eq_true p199
                            replace q199 := eq_true q199
                            go_wp2
                            go_roundg k3
                            case measure => have := HJ8.out; have := HK2.out; have := HK3.out; omega
                            case rel => exact ⟨(x13_3), (wrap64 (x17_3 + 1)), (by first | rfl | (simp; done) | (simp [*]; done)), (by first | rfl | (simp; done) | (simp [*]; done)), H', ⟨by have := HJ8.out; have := HK2.out; have := HK3.out; omega⟩, ⟨by (with_reducible repeat (first | apply Kd.R_alloc | apply Kd.R_drewN | apply Kd.R_drew)); exact HO_194000.out⟩, ⟨by (with_reducible repeat (first | refine blk_drewN ?_ _ | refine blk_drew ?_ | refine blk_alloc ?_ _)); exact BK193.out⟩, ⟨by repeat (first | (with_reducible first | exact HB.out | apply below_alloc | apply pw_below_drewN | apply below_drew1 | refine below_set ?_ GE193.out) | exact HB.out)⟩⟩
                        · rw [if_neg c43] at H
                          exact absurd H (by simp)
                      · rw [if_neg c42] at H
                        exact absurd H (by simp)
                    · rw [if_neg c41] at H
                      have c41b0 : decide (x17_3 < 6) = false := decide_eq_false c41
                      clear c41
                      by_cases c47 : true = true
                      · clear c47
                        have H1 : (some (x13_3 == 0)) = some r := by first | (rw [if_pos rfl] at H; exact H) | (rw [if_pos trivial] at H; exact H)
                        clear H
                        have H := H1
                        clear H1
                        obtain rfl := Option.some.inj H
                        go_wp2
                        go_ret
                        exact ⟨by first | rfl | (simp [errW_none, errW_some] <;> rfl) | (simp [*, errW_none, errW_some] <;> rfl), by repeat (first | (with_reducible first | exact HB.out | apply below_alloc | apply pw_below_drewN | apply below_drew1 | refine below_set ?_ GE193.out) | exact HB.out)⟩
                      · exact absurd rfl c47
  · replace c5 := Bool.eq_false_iff.mpr c5
    subst c5
    have H1 : (some false) = some r := by first | (rw [if_neg (show ¬ (false = true) by decide)] at H; exact H) | (rw [if_neg (fun h => h)] at H; exact H)
    clear H
    have H := H1
    clear H1
    rw [hr_] at H; simp at H
/-- THE ONE PURE STATEMENT of turnspitlaw11_LocksAlone: yours. -/
def turnspitlaw11_LocksAlone.Pure : Prop := ∀ (l0 : List Int) (a1 : Bool) (l2 : List Int), l0.length ≤ maxLen → l0.length * 2 ≤ 140737488351232 → (∀ x ∈ l0, (Lit.int .u16 x).wf = true) → l2.length ≤ maxLen → l2.length * 1 ≤ 140737488351232 → (∀ x ∈ l2, (Lit.int .u8 x).wf = true) → ∃ k, turnspitlaw11_LocksAlone.f k l0 a1 l2 = some true
theorem turnspitlaw11_LocksAlone.walk (P : turnspitlaw11_LocksAlone.Pure) (a0 : Option Addr) (len0 cap0 : Nat) (z0 : List Int) (a1 : Bool) (a2 : Option Addr) (len2 cap2 : Nat) (z2 : List Int) (w : World) (w0 : (a0 = none ∧ len0 = 0 ∧ cap0 = 0 ∧ z0 = []) ∨ ∃ x, a0 = some x ∧ len0 ≤ cap0 ∧ cap0 ≤ maxLen ∧ z0.length = cap0 ∧ (∀ i, i < z0.length → w.cell? (x.add i) = some (.int .u16 (z0.getD i 0))) ∧ ∀ n ∈ z0, (Lit.int .u16 n).wf = true) (y0 : len0 * 2 ≤ 140737488351232) (w2 : (a2 = none ∧ len2 = 0 ∧ cap2 = 0 ∧ z2 = []) ∨ ∃ x, a2 = some x ∧ len2 ≤ cap2 ∧ cap2 ≤ maxLen ∧ z2.length = cap2 ∧ (∀ i, i < z2.length → w.cell? (x.add i) = some (.int .u8 (z2.getD i 0))) ∧ ∀ n ∈ z2, (Lit.int .u8 n).wf = true) (y2 : len2 * 1 ≤ 140737488351232) :
    Calls Try.prog 8 #[.slice a0 len0 cap0, .bool a1, .slice a2 len2 cap2] w fun e w' => e = .returned (.bool true) ∧ Below w.heap.size w w' := by
  obtain ⟨l0, rfl, hr0, hm0, hw0, hc0⟩ := ReadsInt.ofRowC w0
  obtain ⟨l2, rfl, hr2, hm2, hw2, hc2⟩ := ReadsInt.ofRowC w2
  obtain ⟨k, h⟩ := P l0 a1 l2 hm0 y0 hw0 hm2 y2 hw2
  refine (turnspitlaw11_LocksAlone.calls k _ _ l0 a1 _ _ l2 true w (Kd.C_of_reads (d := (0 : Int)) (h1 := fun _ => rfl) hr0) hc0 (Kd.C_of_reads (d := (0 : Int)) (h1 := fun _ => rfl) hr2) hc2 h).mono ?_
  rintro e w' ⟨rfl, hd⟩
  exact ⟨rfl, hd⟩

end Go.Proofs.Ytiidjnnagbfokaa.QLocksAlone
