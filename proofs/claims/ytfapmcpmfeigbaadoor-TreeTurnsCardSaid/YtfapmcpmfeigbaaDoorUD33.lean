/- Parts of the proof, joined: QTreeTurnsx3. -/
import Derived.Test.YtfapmcpmfeigbaaDoorUD32
namespace Go.Proofs.YtfapmcpmfeigbaaDoor.QTreeTurns
open Go.RowKit Go.Proofs.YtfapmcpmfeigbaaDoorW.PrintWords Go.Proofs.YtfapmcpmfeigbaaDoorW.PrintLast Go.Proofs.YtfapmcpmfeigbaaDoorW.PrintMore
attribute [local go_sem] kR kP vN vM jP jO kQ kN   -- for this text's walks alone
set_option linter.unusedVariables false
set_option linter.unusedSimpArgs false
attribute [local go_sem high] eqA57
mutual
def turnspitref09_Same.j0 : Nat → Bool → Int → List (S57) → Int → List (S57) → Option (Bool)
 | 0, _, _, _, _, _ => none
 | k + 1, x19, x125000, x125001, x126000, x126001 => if x19 = true then (some false) else (turnspitref09_Same.l0 k 0 x125000 x125001 x126000 x126001)
def turnspitref09_Same.l0 : Nat → Int → Int → List (S57) → Int → List (S57) → Option (Bool)
 | 0, _, _, _, _, _ => none
 | k + 1, x5, x125000, x125001, x126000, x126001 => if x5 < (x125001.length : Int) then (if 0 ≤ x5 then (if x5 < (x126001.length : Int) then (if (!(((zR x125001 x5).f0) == ((zR x126001 x5).f0)) || (!(((zR x125001 x5).f1) == ((zR x126001 x5).f1)) || (!(((zR x125001 x5).f2) == ((zR x126001 x5).f2)) || (!(((zR x125001 x5).f3) == ((zR x126001 x5).f3)) || (!(((zR x125001 x5).f4) == ((zR x126001 x5).f4)) || (!(((zR x125001 x5).f5) == ((zR x126001 x5).f5)))))))) = true then (some false) else (turnspitref09_Same.l0 k (wrap64 (x5 + 1)) x125000 x125001 x126000 x126001)) else (none)) else (none)) else (some true)
end
def turnspitref09_Same.f (k : Nat) (a0_0 : Int) (l0_1 : List (S57)) (a1_0 : Int) (l1_1 : List (S57)) : Option (Bool) := if a0_0 = a1_0 then (turnspitref09_Same.j0 k ((l0_1.length : Int) != (l1_1.length : Int)) a0_0 l0_1 a1_0 l1_1) else (turnspitref09_Same.j0 k true a0_0 l0_1 a1_0 l1_1)
set_option maxHeartbeats 8000000 in
set_option maxRecDepth 100000 in
theorem turnspitref09_Same.calls (k : Nat) (a0_0 : Int) (A0_1 : Option Addr) (c0_1 : Nat) (l0_1 : List (S57)) (a1_0 : Int) (A1_1 : Option Addr) (c1_1 : Nat) (l1_1 : List (S57)) (r : Bool) (w : World) (hr0_1 : Kd.C k57 w A0_1 l0_1.length l0_1) (hc0_1 : l0_1.length ≤ c0_1) (hr1_1 : Kd.C k57 w A1_1 l1_1.length l1_1) (hc1_1 : l1_1.length ≤ c1_1) (hT : Tm.Emp w) (h : turnspitref09_Same.f k a0_0 l0_1 a1_0 l1_1 = some r) :
  Calls Tryd.prog 15 #[.agg #[.int .i64 a0_0, .slice A0_1 l0_1.length c0_1], .agg #[.int .i64 a1_0, .slice A1_1 l1_1.length c1_1]] w fun e w' => e = .returned (.bool r) ∧ Below w.heap.size w w' := by
 have hu24 := Tryd.underlying24
 have hu57 := Tryd.underlying57
 have HR0_1 := zA.mk hr0_1; have HC0_1 := zA.mk hc0_1; clear hr0_1 hc0_1; have HR1_1 := zA.mk hr1_1; have HC1_1 := zA.mk hc1_1; clear hr1_1 hc1_1
 have HB := zA.mk (Below.refl w.heap.size w)
 have H : (if a0_0 = a1_0 then (turnspitref09_Same.j0 k ((l0_1.length : Int) != (l1_1.length : Int)) a0_0 l0_1 a1_0 l1_1) else (turnspitref09_Same.j0 k true a0_0 l0_1 a1_0 l1_1)) = some r := h
 clear h; have HC3 := zA.mk H; clear H
 go_enter Tryd.func15, Tryd.ntmps15
 go_upto_region 1 with (first | ((with_reducible refine xJ (N := 2) rfl ?_); (try (refine kZ (by rfl) ?_; dsimp only)); refine xC ?hg (N := 2) ?hd (cs := #[.int .i64 a0_0, .slice A0_1 l0_1.length c0_1]) (t := 24) ?hr ?_; (case hd => rfl); (case hg => rfl); (case hr => first | (go_simp; done) | (go_simp; rfl)); intro gb124 hg w4 hbox hb; have n0_ := zA.mk (zT (by repeat (first | (with_reducible first | exact HB.out | apply zH | apply zI | apply zJ) | exact HB.out)) hb); have n1_ := zA.mk (hbox); have n2_ := zA.mk ((by rw [hg]; exact (zW (by repeat (first | (with_reducible first | exact HB.out | apply zH | apply zI | apply zJ) | exact HB.out))) : w.heap.size ≤ gb124)); have n3_ := zA.mk ((by rw [hg]; exact (zW (by repeat (first | (with_reducible first | exact HB.out | apply zH | apply zI | apply zJ) | exact HB.out))) : w.heap.size ≤ gb124)); clear HB; have HB := n0_; have BK124 := n1_; have GW124 := n2_; have GE124 := n3_; clear n0_ n1_ n2_ n3_; clear hb hbox hg) | ((with_reducible refine xJ (N := 3) rfl ?_); (try (refine kZ (by rfl) ?_; dsimp only)); refine xC ?hg (N := 3) ?hd (cs := #[.int .i64 a1_0, .slice A1_1 l1_1.length c1_1]) (t := 24) ?hr ?_; (case hd => rfl); (case hg => rfl); (case hr => first | (go_simp; done) | (go_simp; rfl)); intro gb125 hg w5 hbox hb; have n0_ := zA.mk (zK (g := gb124) (o := .cells #[.int .i64 a0_0, .slice A0_1 l0_1.length c0_1] 24 (0, 0)) (by (with_reducible repeat (first | apply zC | apply zG | apply zD)); exact BK124.out) hb); have n1_ := zA.mk (zT (by repeat (first | (with_reducible first | exact HB.out | apply zH | apply zI | apply zJ | refine zB ?_ GE124.out) | exact HB.out)) hb); have n2_ := zA.mk (hbox); have n3_ := zA.mk ((by rw [hg]; exact (zW (by repeat (first | (with_reducible first | exact HB.out | apply zH | apply zI | apply zJ | refine zB ?_ GE124.out) | exact HB.out))) : w.heap.size ≤ gb125)); have n4_ := zA.mk ((by rw [hg]; exact (zW (by repeat (first | (with_reducible first | exact HB.out | apply zH | apply zI | apply zJ | refine zB ?_ GE124.out) | exact HB.out))) : w.heap.size ≤ gb125)); have n5_ := zA.mk ((by rw [hg]; exact Nat.ne_of_lt (yA (g := gb124) (o := .cells #[.int .i64 a0_0, .slice A0_1 l0_1.length c0_1] 24 (0, 0)) (by (with_reducible repeat (first | apply zC | apply zG | apply zD)); exact BK124.out)) : gb124 ≠ gb125)); have n6_ := zA.mk ((by rw [hg]; exact Nat.ne_of_gt (yA (g := gb124) (o := .cells #[.int .i64 a0_0, .slice A0_1 l0_1.length c0_1] 24 (0, 0)) (by (with_reducible repeat (first | apply zC | apply zG | apply zD)); exact BK124.out)) : gb125 ≠ gb124)); clear BK124 HB; have BK124 := n0_; have HB := n1_; have BK125 := n2_; have GW125 := n3_; have GE125 := n4_; have NB124_125 := n5_; have NB125_124 := n6_; clear n0_ n1_ n2_ n3_ n4_ n5_ n6_; clear hb hbox hg))
 repeat (go_quiet (first | ((with_reducible refine xJ (N := 2) rfl ?_); (try (refine kZ (by rfl) ?_; dsimp only)); refine xC ?hg (N := 2) ?hd (cs := #[.int .i64 a0_0, .slice A0_1 l0_1.length c0_1]) (t := 24) ?hr ?_; (case hd => rfl); (case hg => rfl); (case hr => first | (go_simp; done) | (go_simp; rfl)); intro gb124 hg w4 hbox hb; have n0_ := zA.mk (zT (by repeat (first | (with_reducible first | exact HB.out | apply zH | apply zI | apply zJ) | exact HB.out)) hb); have n1_ := zA.mk (hbox); have n2_ := zA.mk ((by rw [hg]; exact (zW (by repeat (first | (with_reducible first | exact HB.out | apply zH | apply zI | apply zJ) | exact HB.out))) : w.heap.size ≤ gb124)); have n3_ := zA.mk ((by rw [hg]; exact (zW (by repeat (first | (with_reducible first | exact HB.out | apply zH | apply zI | apply zJ) | exact HB.out))) : w.heap.size ≤ gb124)); clear HB; have HB := n0_; have BK124 := n1_; have GW124 := n2_; have GE124 := n3_; clear n0_ n1_ n2_ n3_; clear hb hbox hg) | ((with_reducible refine xJ (N := 3) rfl ?_); (try (refine kZ (by rfl) ?_; dsimp only)); refine xC ?hg (N := 3) ?hd (cs := #[.int .i64 a1_0, .slice A1_1 l1_1.length c1_1]) (t := 24) ?hr ?_; (case hd => rfl); (case hg => rfl); (case hr => first | (go_simp; done) | (go_simp; rfl)); intro gb125 hg w5 hbox hb; have n0_ := zA.mk (zK (g := gb124) (o := .cells #[.int .i64 a0_0, .slice A0_1 l0_1.length c0_1] 24 (0, 0)) (by (with_reducible repeat (first | apply zC | apply zG | apply zD)); exact BK124.out) hb); have n1_ := zA.mk (zT (by repeat (first | (with_reducible first | exact HB.out | apply zH | apply zI | apply zJ | refine zB ?_ GE124.out) | exact HB.out)) hb); have n2_ := zA.mk (hbox); have n3_ := zA.mk ((by rw [hg]; exact (zW (by repeat (first | (with_reducible first | exact HB.out | apply zH | apply zI | apply zJ | refine zB ?_ GE124.out) | exact HB.out))) : w.heap.size ≤ gb125)); have n4_ := zA.mk ((by rw [hg]; exact (zW (by repeat (first | (with_reducible first | exact HB.out | apply zH | apply zI | apply zJ | refine zB ?_ GE124.out) | exact HB.out))) : w.heap.size ≤ gb125)); have n5_ := zA.mk ((by rw [hg]; exact Nat.ne_of_lt (yA (g := gb124) (o := .cells #[.int .i64 a0_0, .slice A0_1 l0_1.length c0_1] 24 (0, 0)) (by (with_reducible repeat (first | apply zC | apply zG | apply zD)); exact BK124.out)) : gb124 ≠ gb125)); have n6_ := zA.mk ((by rw [hg]; exact Nat.ne_of_gt (yA (g := gb124) (o := .cells #[.int .i64 a0_0, .slice A0_1 l0_1.length c0_1] 24 (0, 0)) (by (with_reducible repeat (first | apply zC | apply zG | apply zD)); exact BK124.out)) : gb125 ≠ gb124)); clear BK124 HB; have BK124 := n0_; have HB := n1_; have BK125 := n2_; have GW125 := n3_; have GE125 := n4_; have NB124_125 := n5_; have NB125_124 := n6_; clear n0_ n1_ n2_ n3_ n4_ n5_ n6_; clear hb hbox hg)); go_upto_region 1 with (first | ((with_reducible refine xJ (N := 2) rfl ?_); (try (refine kZ (by rfl) ?_; dsimp only)); refine xC ?hg (N := 2) ?hd (cs := #[.int .i64 a0_0, .slice A0_1 l0_1.length c0_1]) (t := 24) ?hr ?_; (case hd => rfl); (case hg => rfl); (case hr => first | (go_simp; done) | (go_simp; rfl)); intro gb124 hg w4 hbox hb; have n0_ := zA.mk (zT (by repeat (first | (with_reducible first | exact HB.out | apply zH | apply zI | apply zJ) | exact HB.out)) hb); have n1_ := zA.mk (hbox); have n2_ := zA.mk ((by rw [hg]; exact (zW (by repeat (first | (with_reducible first | exact HB.out | apply zH | apply zI | apply zJ) | exact HB.out))) : w.heap.size ≤ gb124)); have n3_ := zA.mk ((by rw [hg]; exact (zW (by repeat (first | (with_reducible first | exact HB.out | apply zH | apply zI | apply zJ) | exact HB.out))) : w.heap.size ≤ gb124)); clear HB; have HB := n0_; have BK124 := n1_; have GW124 := n2_; have GE124 := n3_; clear n0_ n1_ n2_ n3_; clear hb hbox hg) | ((with_reducible refine xJ (N := 3) rfl ?_); (try (refine kZ (by rfl) ?_; dsimp only)); refine xC ?hg (N := 3) ?hd (cs := #[.int .i64 a1_0, .slice A1_1 l1_1.length c1_1]) (t := 24) ?hr ?_; (case hd => rfl); (case hg => rfl); (case hr => first | (go_simp; done) | (go_simp; rfl)); intro gb125 hg w5 hbox hb; have n0_ := zA.mk (zK (g := gb124) (o := .cells #[.int .i64 a0_0, .slice A0_1 l0_1.length c0_1] 24 (0, 0)) (by (with_reducible repeat (first | apply zC | apply zG | apply zD)); exact BK124.out) hb); have n1_ := zA.mk (zT (by repeat (first | (with_reducible first | exact HB.out | apply zH | apply zI | apply zJ | refine zB ?_ GE124.out) | exact HB.out)) hb); have n2_ := zA.mk (hbox); have n3_ := zA.mk ((by rw [hg]; exact (zW (by repeat (first | (with_reducible first | exact HB.out | apply zH | apply zI | apply zJ | refine zB ?_ GE124.out) | exact HB.out))) : w.heap.size ≤ gb125)); have n4_ := zA.mk ((by rw [hg]; exact (zW (by repeat (first | (with_reducible first | exact HB.out | apply zH | apply zI | apply zJ | refine zB ?_ GE124.out) | exact HB.out))) : w.heap.size ≤ gb125)); have n5_ := zA.mk ((by rw [hg]; exact Nat.ne_of_lt (yA (g := gb124) (o := .cells #[.int .i64 a0_0, .slice A0_1 l0_1.length c0_1] 24 (0, 0)) (by (with_reducible repeat (first | apply zC | apply zG | apply zD)); exact BK124.out)) : gb124 ≠ gb125)); have n6_ := zA.mk ((by rw [hg]; exact Nat.ne_of_gt (yA (g := gb124) (o := .cells #[.int .i64 a0_0, .slice A0_1 l0_1.length c0_1] 24 (0, 0)) (by (with_reducible repeat (first | apply zC | apply zG | apply zD)); exact BK124.out)) : gb125 ≠ gb124)); clear BK124 HB; have BK124 := n0_; have HB := n1_; have BK125 := n2_; have GW125 := n3_; have GE125 := n4_; have NB124_125 := n5_; have NB125_124 := n6_; clear n0_ n1_ n2_ n3_ n4_ n5_ n6_; clear hb hbox hg)))
 (try simp only [Act.put, List.setIfInBounds_toArray, List.set_cons_zero, List.set_cons_succ])
 go_cut [19] (fun v19 wc => ∃ (kq : Nat) (x19_2 : Bool), v19 = .bool x19_2 ∧ zA (turnspitref09_Same.j0 kq x19_2 a0_0 l0_1 a1_0 l1_1 = some r) ∧ zA (kq ≤ k) ∧ zA (wc.heap[gb124]? = some (.cells #[.int .i64 a0_0, (.slice A0_1 l0_1.length c0_1)] 24 (0, 0))) ∧ zA (wc.heap[gb125]? = some (.cells #[.int .i64 a1_0, (.slice A1_1 l1_1.length c1_1)] 24 (0, 0))) ∧ zA (Below w.heap.size w wc))
 case first =>
  have H := HC3.out; clear HC3
  by_cases c6 : a0_0 = a1_0
  rotate_left
  ·rw [if_neg c6] at H
   have c6b0 : (a0_0 == a1_0) = false := beq_eq_false_iff_ne.mpr c6
   have c6b1 : (a0_0 != a1_0) = true := bne_iff_ne.mpr c6
   (first | rw [c6b0] | (simp only [zU, zV]; rw [c6b0]) | skip)
   have H' := zA.mk H
   clear H; have hnb10 := NB124_125.out; have hnc10 := NB125_124.out; have hcz11_0 : w5.cell? ⟨gb124, 0, none⟩ = some (.int .i64 a0_0) := (zF BK124.out 0).trans rfl; have hcz11_1 : w5.cell? ⟨gb124, 1, none⟩ = some (.slice A0_1 l0_1.length c0_1) := (zF BK124.out 1).trans rfl; have hfz11_0 := zL BK124.out 0; have hfz11_1 := zL BK124.out 1; have hcz12_0 : w5.cell? ⟨gb125, 0, none⟩ = some (.int .i64 a1_0) := (zF BK125.out 0).trans rfl; have hcz12_1 : w5.cell? ⟨gb125, 1, none⟩ = some (.slice A1_1 l1_1.length c1_1) := (zF BK125.out 1).trans rfl; have hfz12_0 := zL BK125.out 0; have hfz12_1 := zL BK125.out 1
   go_wp2
   repeat (go_quiet (fail); try go_wp2)
   go_meet
   case rel => exact ⟨_, (true), (by first | rfl | (simp; done) | (simp [*]; done)), H', ⟨by first | omega | exact Nat.le_refl _⟩, ⟨by (with_reducible repeat (first | apply zC | apply zG | apply zD)); exact BK124.out⟩, ⟨by (with_reducible repeat (first | apply zC | apply zG | apply zD)); exact BK125.out⟩, ⟨by repeat (first | (with_reducible first | exact HB.out | apply zH | apply zI | apply zJ | refine zB ?_ GE124.out | refine zB ?_ GE125.out) | exact HB.out)⟩⟩
  rw [if_pos c6] at H
  have c6b0 : (a0_0 == a1_0) = true := beq_iff_eq.mpr c6
  have c6b1 : (a0_0 != a1_0) = false := bne_eq_false_iff_eq.mpr c6
  clear c6
  (first | rw [c6b0] | (simp only [zU, zV]; rw [c6b0]) | skip)
  have H' := zA.mk H
  clear H; have hnb7 := NB124_125.out; have hnc7 := NB125_124.out; have hcz8_0 : w5.cell? ⟨gb124, 0, none⟩ = some (.int .i64 a0_0) := (zF BK124.out 0).trans rfl; have hcz8_1 : w5.cell? ⟨gb124, 1, none⟩ = some (.slice A0_1 l0_1.length c0_1) := (zF BK124.out 1).trans rfl; have hfz8_0 := zL BK124.out 0; have hfz8_1 := zL BK124.out 1; have hcz9_0 : w5.cell? ⟨gb125, 0, none⟩ = some (.int .i64 a1_0) := (zF BK125.out 0).trans rfl; have hcz9_1 : w5.cell? ⟨gb125, 1, none⟩ = some (.slice A1_1 l1_1.length c1_1) := (zF BK125.out 1).trans rfl; have hfz9_0 := zL BK125.out 0; have hfz9_1 := zL BK125.out 1
  go_wp2
  repeat (go_quiet (fail); try go_wp2)
  go_meet
  case rel => exact ⟨_, (((l0_1.length : Int) != (l1_1.length : Int))), (by first | rfl | (simp; done) | (simp [*]; done)), H', ⟨by first | omega | exact Nat.le_refl _⟩, ⟨by (with_reducible repeat (first | apply zC | apply zG | apply zD)); exact BK124.out⟩, ⟨by (with_reducible repeat (first | apply zC | apply zG | apply zD)); exact BK125.out⟩, ⟨by repeat (first | (with_reducible first | exact HB.out | apply zH | apply zI | apply zJ | refine zB ?_ GE124.out | refine zB ?_ GE125.out) | exact HB.out)⟩⟩
 case rest =>
  clear HC3; (try clear c1); (try clear p2); (try clear c6); (try clear c6b0); (try clear c6b1); (try clear c7); (try clear c10); (try clear hcz11_0); (try clear hcz11_1); (try clear hcz12_0); (try clear hcz12_1); (try clear hcz8_0); (try clear hcz8_1); (try clear hcz9_0); (try clear hcz9_1); (try clear hfz11_0); (try clear hfz11_1); (try clear hfz12_0); (try clear hfz12_1); (try clear hfz8_0); (try clear hfz8_1); (try clear hfz9_0); (try clear hfz9_1)
  obtain ⟨kq, x19_2, rfl, HA, HJ2, BK124, BK125, HB⟩ := hcut
  cases kq with
  | zero => exact absurd HA.out (by simp [turnspitref09_Same.j0])
  | succ kj2 =>
   have H := HA.out; clear HA
   simp only [turnspitref09_Same.j0] at H
   by_cases c13 : x19_2 = true
   ·subst c13
    have H1 : (some false) = some r := by first | (rw [if_pos rfl] at H; exact H) | (rw [if_pos trivial] at H; exact H)
    clear H; have H := H1; clear H1; obtain rfl := Option.some.inj H
    go_wp2
    repeat (go_quiet (fail); try go_wp2)
    go_ret
    exact ⟨by first | rfl | (simp [xI, xH] <;> rfl) | (simp [*, xI, xH] <;> rfl), by repeat (first | (with_reducible first | exact HB.out | apply zH | apply zI | apply zJ | refine zB ?_ GE124.out | refine zB ?_ GE125.out) | exact HB.out)⟩
   replace c13 := Bool.eq_false_iff.mpr c13
   subst c13
   have H1 : (turnspitref09_Same.l0 kj2 0 a0_0 l0_1 a1_0 l1_1) = some r := by first | (rw [if_neg (show ¬ (false = true) by decide)] at H; exact H) | (rw [if_neg (fun h => h)] at H; exact H)
   clear H; have H := H1; clear H1
   have H' := zA.mk H
   clear H
   go_wp2
   repeat (go_quiet (fail); try go_wp2)
   go_loopg [5] kj2 (fun kq v5 w' => ∃ (x5_2 : Int), v5 = .int .i64 x5_2 ∧ zA (turnspitref09_Same.l0 kq x5_2 a0_0 l0_1 a1_0 l1_1 = some r) ∧ zA (kq ≤ kj2) ∧ zA (w'.heap[gb124]? = some (.cells #[.int .i64 a0_0, (.slice A0_1 l0_1.length c0_1)] 24 (0, 0))) ∧ zA (w'.heap[gb125]? = some (.cells #[.int .i64 a1_0, (.slice A1_1 l1_1.length c1_1)] 24 (0, 0))) ∧ zA (Below w.heap.size w w'))
   case atStart => exact ⟨(0), (by first | rfl | (simp; done) | (simp [*]; done)), H', ⟨Nat.le_refl _⟩, ⟨by (with_reducible repeat (first | apply zC | apply zG | apply zD)); exact BK124.out⟩, ⟨by (with_reducible repeat (first | apply zC | apply zG | apply zD)); exact BK125.out⟩, ⟨by repeat (first | (with_reducible first | exact HB.out | apply zH | apply zI | apply zJ | refine zB ?_ GE124.out | refine zB ?_ GE125.out) | exact HB.out)⟩⟩
   case round =>
    clear H'; (try clear c1); (try clear p2); (try clear c6); (try clear c6b0); (try clear c6b1); (try clear c7); (try clear c10); (try clear c13); (try clear hcz11_0); (try clear hcz11_1); (try clear hcz12_0); (try clear hcz12_1); (try clear hcz8_0); (try clear hcz8_1); (try clear hcz9_0); (try clear hcz9_1); (try clear hfz11_0); (try clear hfz11_1); (try clear hfz12_0); (try clear hfz12_1); (try clear hfz8_0); (try clear hfz8_1); (try clear hfz9_0); (try clear hfz9_1); (try clear p2)
    obtain ⟨x5_2, rfl, HA, HK2, BK124, BK125, HB⟩ := hrel
    cases gk with
    | zero => exact absurd HA.out (by simp [turnspitref09_Same.l0])
    | succ k2 =>
     have H := HA.out; clear HA
     simp only [turnspitref09_Same.l0] at H
     by_cases c14 : x5_2 < (l0_1.length : Int)
     rotate_left
     ·rw [if_neg c14] at H
      have c14b0 : decide (x5_2 < (l0_1.length : Int)) = false := decide_eq_false c14
      clear c14; obtain rfl := Option.some.inj H; have hnb24 := NB124_125.out; have hnc24 := NB125_124.out; have hcz25_0 : wr.cell? ⟨gb124, 0, none⟩ = some (.int .i64 a0_0) := (zF BK124.out 0).trans rfl; have hcz25_1 : wr.cell? ⟨gb124, 1, none⟩ = some (.slice A0_1 l0_1.length c0_1) := (zF BK124.out 1).trans rfl; have hfz25_0 := zL BK124.out 0; have hfz25_1 := zL BK124.out 1
      go_wp2
      repeat (go_quiet (fail); try go_wp2)
      go_ret
      exact ⟨by first | rfl | (simp [xI, xH] <;> rfl) | (simp [*, xI, xH] <;> rfl), by repeat (first | (with_reducible first | exact HB.out | apply zH | apply zI | apply zJ | refine zB ?_ GE124.out | refine zB ?_ GE125.out) | exact HB.out)⟩
     rw [if_pos c14] at H
     have c14b0 : decide (x5_2 < (l0_1.length : Int)) = true := decide_eq_true c14
     clear c14
     by_cases c15 : 0 ≤ x5_2
     rotate_left
     ·rw [if_neg c15] at H
      exact absurd H (by simp)
     rw [if_pos c15] at H
     have c15b0 : decide (0 ≤ x5_2) = true := decide_eq_true c15
     clear c15
     by_cases c16 : x5_2 < (l1_1.length : Int)
     rotate_left
     ·rw [if_neg c16] at H
      exact absurd H (by simp)
     rw [if_pos c16] at H
     have c16b0 : decide (x5_2 < (l1_1.length : Int)) = true := decide_eq_true c16
     clear c16
     by_cases c17 : (!(((zR l0_1 x5_2).f0) == ((zR l1_1 x5_2).f0)) || (!(((zR l0_1 x5_2).f1) == ((zR l1_1 x5_2).f1)) || (!(((zR l0_1 x5_2).f2) == ((zR l1_1 x5_2).f2)) || (!(((zR l0_1 x5_2).f3) == ((zR l1_1 x5_2).f3)) || (!(((zR l0_1 x5_2).f4) == ((zR l1_1 x5_2).f4)) || (!(((zR l0_1 x5_2).f5) == ((zR l1_1 x5_2).f5)))))))) = true
     ·rw [if_pos c17] at H
      have c17b0 : (!(((zR l0_1 x5_2).f0) == ((zR l1_1 x5_2).f0)) || (!(((zR l0_1 x5_2).f1) == ((zR l1_1 x5_2).f1)) || (!(((zR l0_1 x5_2).f2) == ((zR l1_1 x5_2).f2)) || (!(((zR l0_1 x5_2).f3) == ((zR l1_1 x5_2).f3)) || (!(((zR l0_1 x5_2).f4) == ((zR l1_1 x5_2).f4)) || (!(((zR l0_1 x5_2).f5) == ((zR l1_1 x5_2).f5)))))))) = true := c17
      clear c17; obtain rfl := Option.some.inj H; have hnb18 := NB124_125.out; have hnc18 := NB125_124.out; have hcz19_0 : wr.cell? ⟨gb124, 0, none⟩ = some (.int .i64 a0_0) := (zF BK124.out 0).trans rfl; have hcz19_1 : wr.cell? ⟨gb124, 1, none⟩ = some (.slice A0_1 l0_1.length c0_1) := (zF BK124.out 1).trans rfl; have hfz19_0 := zL BK124.out 0; have hfz19_1 := zL BK124.out 1
      have p126 : 0 ≤ (x5_2 : Int) := of_decide_eq_true (by first | (with_reducible assumption) | assumption)
      have q126 : x5_2 < (l0_1.length : Int) := of_decide_eq_true (by first | (with_reducible assumption) | assumption)
      obtain ⟨ad126, e126, hx126_0, hx126_1, hx126_2, hx126_3, hx126_4, hx126_5⟩ := zaY HR0_1.out x5_2 p126 q126
      cases e126
      replace hx126_0 := (HB.out.cell (World.block_lt_of_cell? w _ hx126_0)).trans hx126_0
      replace hx126_1 := (HB.out.cell (World.block_lt_of_cell? w _ hx126_1)).trans hx126_1
      replace hx126_2 := (HB.out.cell (World.block_lt_of_cell? w _ hx126_2)).trans hx126_2
      replace hx126_3 := (HB.out.cell (World.block_lt_of_cell? w _ hx126_3)).trans hx126_3
      replace hx126_4 := (HB.out.cell (World.block_lt_of_cell? w _ hx126_4)).trans hx126_4
      replace hx126_5 := (HB.out.cell (World.block_lt_of_cell? w _ hx126_5)).trans hx126_5
      replace p126 := eq_true p126
      replace q126 := eq_true q126
      have hcz20_0 : wr.cell? ⟨gb125, 0, none⟩ = some (.int .i64 a1_0) := (zF BK125.out 0).trans rfl; have hcz20_1 : wr.cell? ⟨gb125, 1, none⟩ = some (.slice A1_1 l1_1.length c1_1) := (zF BK125.out 1).trans rfl; have hfz20_0 := zL BK125.out 0; have hfz20_1 := zL BK125.out 1
      have p127 : 0 ≤ (x5_2 : Int) := of_decide_eq_true (by first | (with_reducible assumption) | assumption)
      have q127 : x5_2 < (l1_1.length : Int) := of_decide_eq_true (by first | (with_reducible assumption) | assumption)
      obtain ⟨ad127, e127, hx127_0, hx127_1, hx127_2, hx127_3, hx127_4, hx127_5⟩ := zaY HR1_1.out x5_2 p127 q127
      cases e127
      replace hx127_0 := (HB.out.cell (World.block_lt_of_cell? w _ hx127_0)).trans hx127_0
      replace hx127_1 := (HB.out.cell (World.block_lt_of_cell? w _ hx127_1)).trans hx127_1
      replace hx127_2 := (HB.out.cell (World.block_lt_of_cell? w _ hx127_2)).trans hx127_2
      replace hx127_3 := (HB.out.cell (World.block_lt_of_cell? w _ hx127_3)).trans hx127_3
      replace hx127_4 := (HB.out.cell (World.block_lt_of_cell? w _ hx127_4)).trans hx127_4
      replace hx127_5 := (HB.out.cell (World.block_lt_of_cell? w _ hx127_5)).trans hx127_5
      replace p127 := eq_true p127
      replace q127 := eq_true q127
      go_wp2
      repeat (go_quiet (fail); try go_wp2)
      go_ret
      exact ⟨by first | rfl | (simp [xI, xH] <;> rfl) | (simp [*, xI, xH] <;> rfl), by repeat (first | (with_reducible first | exact HB.out | apply zH | apply zI | apply zJ | refine zB ?_ GE124.out | refine zB ?_ GE125.out) | exact HB.out)⟩
     rw [if_neg c17] at H
     have c17b0 : (!(((zR l0_1 x5_2).f0) == ((zR l1_1 x5_2).f0)) || (!(((zR l0_1 x5_2).f1) == ((zR l1_1 x5_2).f1)) || (!(((zR l0_1 x5_2).f2) == ((zR l1_1 x5_2).f2)) || (!(((zR l0_1 x5_2).f3) == ((zR l1_1 x5_2).f3)) || (!(((zR l0_1 x5_2).f4) == ((zR l1_1 x5_2).f4)) || (!(((zR l0_1 x5_2).f5) == ((zR l1_1 x5_2).f5)))))))) = false := by simpa using c17
     clear c17
     have H' := zA.mk H
     clear H; have hnb21 := NB124_125.out; have hnc21 := NB125_124.out; have hcz22_0 : wr.cell? ⟨gb124, 0, none⟩ = some (.int .i64 a0_0) := (zF BK124.out 0).trans rfl; have hcz22_1 : wr.cell? ⟨gb124, 1, none⟩ = some (.slice A0_1 l0_1.length c0_1) := (zF BK124.out 1).trans rfl; have hfz22_0 := zL BK124.out 0; have hfz22_1 := zL BK124.out 1
     have p126 : 0 ≤ (x5_2 : Int) := of_decide_eq_true (by first | (with_reducible assumption) | assumption)
     have q126 : x5_2 < (l0_1.length : Int) := of_decide_eq_true (by first | (with_reducible assumption) | assumption)
     obtain ⟨ad126, e126, hx126_0, hx126_1, hx126_2, hx126_3, hx126_4, hx126_5⟩ := zaY HR0_1.out x5_2 p126 q126
     cases e126
     replace hx126_0 := (HB.out.cell (World.block_lt_of_cell? w _ hx126_0)).trans hx126_0
     replace hx126_1 := (HB.out.cell (World.block_lt_of_cell? w _ hx126_1)).trans hx126_1
     replace hx126_2 := (HB.out.cell (World.block_lt_of_cell? w _ hx126_2)).trans hx126_2
     replace hx126_3 := (HB.out.cell (World.block_lt_of_cell? w _ hx126_3)).trans hx126_3
     replace hx126_4 := (HB.out.cell (World.block_lt_of_cell? w _ hx126_4)).trans hx126_4
     replace hx126_5 := (HB.out.cell (World.block_lt_of_cell? w _ hx126_5)).trans hx126_5
     replace p126 := eq_true p126
     replace q126 := eq_true q126
     have hcz23_0 : wr.cell? ⟨gb125, 0, none⟩ = some (.int .i64 a1_0) := (zF BK125.out 0).trans rfl; have hcz23_1 : wr.cell? ⟨gb125, 1, none⟩ = some (.slice A1_1 l1_1.length c1_1) := (zF BK125.out 1).trans rfl; have hfz23_0 := zL BK125.out 0; have hfz23_1 := zL BK125.out 1
     have p127 : 0 ≤ (x5_2 : Int) := of_decide_eq_true (by first | (with_reducible assumption) | assumption)
     have q127 : x5_2 < (l1_1.length : Int) := of_decide_eq_true (by first | (with_reducible assumption) | assumption)
     obtain ⟨ad127, e127, hx127_0, hx127_1, hx127_2, hx127_3, hx127_4, hx127_5⟩ := zaY HR1_1.out x5_2 p127 q127
     cases e127
     replace hx127_0 := (HB.out.cell (World.block_lt_of_cell? w _ hx127_0)).trans hx127_0
     replace hx127_1 := (HB.out.cell (World.block_lt_of_cell? w _ hx127_1)).trans hx127_1
     replace hx127_2 := (HB.out.cell (World.block_lt_of_cell? w _ hx127_2)).trans hx127_2
     replace hx127_3 := (HB.out.cell (World.block_lt_of_cell? w _ hx127_3)).trans hx127_3
     replace hx127_4 := (HB.out.cell (World.block_lt_of_cell? w _ hx127_4)).trans hx127_4
     replace hx127_5 := (HB.out.cell (World.block_lt_of_cell? w _ hx127_5)).trans hx127_5
     replace p127 := eq_true p127
     replace q127 := eq_true q127
     go_wp2
     repeat (go_quiet (fail); try go_wp2)
     go_roundg k2
     case measure => have := HJ2.out; have := HK2.out; omega
     case rel => exact ⟨(wrap64 (x5_2 + 1)), (by first | rfl | (simp; done) | (simp [*]; done)), H', ⟨by have := HJ2.out; have := HK2.out; omega⟩, ⟨by (with_reducible repeat (first | apply zC | apply zG | apply zD)); exact BK124.out⟩, ⟨by (with_reducible repeat (first | apply zC | apply zG | apply zD)); exact BK125.out⟩, ⟨by repeat (first | (with_reducible first | exact HB.out | apply zH | apply zI | apply zJ | refine zB ?_ GE124.out | refine zB ?_ GE125.out) | exact HB.out)⟩⟩
def turnspitref09_Empty.f  : Option (Bool × Bool × Int × Int × Int × Int) := some (false, false, 0, (-1), (-1), (-1))
set_option maxHeartbeats 8000000 in
set_option maxRecDepth 100000 in
theorem turnspitref09_Empty.calls  (r1 : Bool) (r2 : Bool) (r3 : Int) (r4 : Int) (r5 : Int) (r6 : Int) (w : World) (hT : Tm.Emp w) (h : turnspitref09_Empty.f  = some (r1, r2, r3, r4, r5, r6)) :
  Calls Tryd.prog 40 #[] w fun e w' => e = .returned (.agg #[.bool r1, .bool r2, .int .u64 r3, .int .i64 r4, .int .i64 r5, .int .i64 r6]) ∧ Below w.heap.size w w' := by
 have hu57 := Tryd.underlying57
 have HB := zA.mk (Below.refl w.heap.size w)
 have H : (some (false, false, 0, (-1), (-1), (-1))) = some (r1, r2, r3, r4, r5, r6) := h
 clear h
 simp only [Option.some.injEq, Prod.mk.injEq] at H
 obtain ⟨rfl, rfl, rfl, rfl, rfl, rfl⟩ := H
 go_enter Tryd.func40, Tryd.ntmps40
 go_wp2_with (first | ((with_reducible refine xJ (N := 0) rfl ?_); refine xC ?hg (N := 0) ?hd (cs := #[.bool false, .bool false, .int .u64 0, .int .i64 0, .int .i64 0, .int .i64 0]) (t := 57) ?hr ?_; (case hd => rfl); (case hg => rfl); (case hr => first | (go_simp; done) | (go_simp; rfl)); intro gb128 hg w1 hbox hb; have n0_ := zA.mk (zT (by repeat (first | (with_reducible first | exact HB.out | apply zH | apply zI | apply zJ) | exact HB.out)) hb); have n1_ := zA.mk (hbox); have n2_ := zA.mk ((by rw [hg]; exact (zW (by repeat (first | (with_reducible first | exact HB.out | apply zH | apply zI | apply zJ) | exact HB.out))) : w.heap.size ≤ gb128)); have n3_ := zA.mk ((by rw [hg]; exact (zW (by repeat (first | (with_reducible first | exact HB.out | apply zH | apply zI | apply zJ) | exact HB.out))) : w.heap.size ≤ gb128)); clear HB; have HB := n0_; have BK128 := n1_; have GW128 := n2_; have GE128 := n3_; clear n0_ n1_ n2_ n3_; clear hb hbox hg; have hcz2_0 : w1.cell? ⟨gb128, 0, none⟩ = some (.bool false) := (zF BK128.out 0).trans rfl; have hcz2_1 : w1.cell? ⟨gb128, 1, none⟩ = some (.bool false) := (zF BK128.out 1).trans rfl; have hcz2_2 : w1.cell? ⟨gb128, 2, none⟩ = some (.int .u64 0) := (zF BK128.out 2).trans rfl; have hcz2_3 : w1.cell? ⟨gb128, 3, none⟩ = some (.int .i64 0) := (zF BK128.out 3).trans rfl; have hcz2_4 : w1.cell? ⟨gb128, 4, none⟩ = some (.int .i64 0) := (zF BK128.out 4).trans rfl; have hcz2_5 : w1.cell? ⟨gb128, 5, none⟩ = some (.int .i64 0) := (zF BK128.out 5).trans rfl; have hfz2_0 := zL BK128.out 0; have hfz2_1 := zL BK128.out 1; have hfz2_2 := zL BK128.out 2; have hfz2_3 := zL BK128.out 3; have hfz2_4 := zL BK128.out 4; have hfz2_5 := zL BK128.out 5))
 refine bodyPost_ret (results_cell_row rfl _ _ gb128 57 #[.bool false, .bool false, .int .u64 0, .int .i64 (-1), .int .i64 (-1), .int .i64 (-1)] (0, 0) _ rfl (by (with_reducible repeat (first | apply zC | apply zG | apply zD)); refine yK (cs := #[.bool false, .bool false, .int .u64 0, .int .i64 (-1), .int .i64 (-1), .int .i64 0]) ?_ 5 _ rfl; (with_reducible repeat (first | apply zC | apply zG | apply zD)); refine yK (cs := #[.bool false, .bool false, .int .u64 0, .int .i64 (-1), .int .i64 0, .int .i64 0]) ?_ 4 _ rfl; (with_reducible repeat (first | apply zC | apply zG | apply zD)); refine yK (cs := #[.bool false, .bool false, .int .u64 0, .int .i64 0, .int .i64 0, .int .i64 0]) ?_ 3 _ rfl; (with_reducible repeat (first | apply zC | apply zG | apply zD)); refine yK (cs := #[.bool false, .bool false, .int .u64 0, .int .i64 0, .int .i64 0, .int .i64 0]) ?_ 2 _ rfl; (with_reducible repeat (first | apply zC | apply zG | apply zD)); refine yK (cs := #[.bool false, .bool false, .int .u64 0, .int .i64 0, .int .i64 0, .int .i64 0]) ?_ 1 _ rfl; (with_reducible repeat (first | apply zC | apply zG | apply zD)); refine yK (cs := #[.bool false, .bool false, .int .u64 0, .int .i64 0, .int .i64 0, .int .i64 0]) ?_ 0 _ rfl; (with_reducible repeat (first | apply zC | apply zG | apply zD)); exact BK128.out) Tryd.underlying57 rfl (by kernel_rfl)) rfl ?_
 exact ⟨by first | rfl | (simp [xI, xH] <;> rfl) | (simp [*, xI, xH] <;> rfl), by repeat (first | (with_reducible first | exact HB.out | apply zH | apply zI | apply zJ | refine zB ?_ GE128.out) | exact HB.out)⟩
end Go.Proofs.YtfapmcpmfeigbaaDoor.QTreeTurns
