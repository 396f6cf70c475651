/- Parts of the proof, joined: QTreeTurnsx12. -/
import Derived.Test.YtfapmcpmfeigbaaDoorUD32
import Derived.Test.YtfapmcpmfeigbaaDoorUD33
import Derived.Test.YtfapmcpmfeigbaaDoorUD34
import Derived.Deep.Cut
namespace Go.Proofs.YtfapmcpmfeigbaaDoor.QTreeTurns
open Go.RowKit Go.Proofs.YtfapmcpmfeigbaaDoorW.PrintWords Go.Proofs.YtfapmcpmfeigbaaDoorW.PrintLast Go.Proofs.YtfapmcpmfeigbaaDoorW.PrintMore
attribute [local go_sem] kR kP vN vM jP jO kQ kN   -- for this text's walks alone
set_option linter.unusedVariables false
set_option linter.unusedSimpArgs false
open Go.Proofs.YtfapmcpmfeigbaaDoor.Tr Go.Proofs.YtfapmcpmfeigbaaDoor.Tm
def turnspitref09_Delete.okN (l : List S57) : Bool := decide (l.length ≤ 1000000)
def turnspitref09_Delete.nd (s : S57) : Nd := ⟨s.f0, s.f1, s.f2, s.f3, s.f4, s.f5⟩
def turnspitref09_Delete.un (n : Nd) : S57 := ⟨n.inn, n.red, n.v, n.l, n.r, n.u⟩
theorem turnspitref09_Delete.inC {w : World} {A : Option Addr} {l : List S57} (h : Kd.C k57 w A l.length l) : kn.C w A (l.map turnspitref09_Delete.nd).length (l.map turnspitref09_Delete.nd) := by
 rw [List.length_map]
 refine Tk.zbM.2 ?_
 have h2 := Tk.zbM.1 h
 rw [List.map_map]
 exact h2
theorem turnspitref09_Delete.outR {w : World} {base : Nat} {ok : Nat → Prop} {v : Value} {l : List Nd} (h : kn.R 57 w base ok v l) : Kd.R k57 57 w base ok v (l.map turnspitref09_Delete.un) := by
 refine Tk.zbL.2 ?_
 have h2 := Tk.zbL.1 h
 rw [List.map_map]
 exact h2
def turnspitref09_Delete.f (a0_0 : Int) (l0_1 : List S57) (a1 : Int) (a2 : Int) : Option (Int × (List S57) × Int) := if turnspitref09_Delete.okN l0_1 = true then (delF ⟨l0_1.map turnspitref09_Delete.nd, a0_0⟩ a1 a2).map (fun r => (r.1.rt, r.1.ns.map turnspitref09_Delete.un, r.2)) else none
theorem turnspitref09_Delete.calls (a0_0 : Int) (A0_1 : Option Addr) (c0_1 : Nat) (l0_1 : List (S57)) (a1 : Int) (a2 : Int) (r1 : Int) (r2 : List (S57)) (r3 : Int) (w : World) (hr0_1 : Kd.C k57 w A0_1 l0_1.length l0_1) (hc0_1 : l0_1.length ≤ c0_1) (hT : Tm.Emp w) (h : turnspitref09_Delete.f a0_0 l0_1 a1 a2 = some (r1, r2, r3)) :
  Calls Tryd.prog 14 #[.agg #[.int .i64 a0_0, .slice A0_1 l0_1.length c0_1], .int .u64 a1, .int .i64 a2] w fun e w' => ∃ v1_ : Value, e = .returned (.tuple #[.agg #[.int .i64 r1, v1_], .int .i64 r3]) ∧ Kd.R k57 57 w' w.heap.size (fun _ => True) v1_ r2 ∧ Below w.heap.size w w' := by
 unfold turnspitref09_Delete.f at h
 by_cases c : turnspitref09_Delete.okN l0_1 = true
 rotate_left
 ·rw [if_neg c] at h
  cases h
 rw [if_pos c] at h
 have hl : (l0_1.map turnspitref09_Delete.nd).length ≤ 1000000 := by rw [List.length_map]; exact of_decide_eq_true c
 cases hm : delF (⟨l0_1.map turnspitref09_Delete.nd, a0_0⟩ : St) a1 a2 with
 | none => rw [hm] at h; cases h
 | some r =>
  rw [hm] at h
  have h := Option.some.inj h
  simp only [Prod.mk.injEq] at h
  obtain ⟨rfl, rfl, rfl⟩ := h
  have h2 := rDelete_ (t := ⟨l0_1.map turnspitref09_Delete.nd, a0_0⟩) (w := w) A0_1 c0_1 a1 a2 r (turnspitref09_Delete.inC hr0_1) (by rw [List.length_map]; exact hc0_1) hl hm
  simp only [List.length_map] at h2
  refine h2.mono ?_
  rintro e w' ⟨v, rfl, hR, hB⟩
  exact ⟨v, rfl, turnspitref09_Delete.outR hR, hB⟩
mutual
def turnspitref09_New.j0 : Nat → Int → Bool → Option (Int × (List (S57)) × Int)
 | 0, _, _ => none
 | k + 1, x0, x11 => if x11 = true then (some (0, ([] : List (S57)), 1)) else (turnspitref09_New.l0 k x0 0 (-1) ([] : List (S57)))
def turnspitref09_New.l0 : Nat → Int → Int → Int → List (S57) → Option (Int × (List (S57)) × Int)
 | 0, _, _, _, _ => none
 | k + 1, x0, x5, x389000, x389001 => if x5 < x0 then ((turnspitref09_Empty.f).bind fun bt389 => (if x389001.length < 3518437208883 then (turnspitref09_New.l0 k x0 (wrap64 (x5 + 1)) x389000 (x389001 ++ [(⟨bt389.1, bt389.2.1, bt389.2.2.1, bt389.2.2.2.1, bt389.2.2.2.2.1, bt389.2.2.2.2.2⟩ : S57)])) else (none))) else (some (x389000, x389001, 0))
end
def turnspitref09_New.f (k : Nat) (a0 : Int) : Option (Int × (List (S57)) × Int) := if a0 < 0 then (turnspitref09_New.j0 k a0 true) else (turnspitref09_New.j0 k a0 (decide (a0 > 64)))
theorem turnspitref09_New.mono_l : ∀ k, (∀ y0 y1, LeO (turnspitref09_New.j0 k y0 y1) (turnspitref09_New.j0 (k + 1) y0 y1)) ∧ (∀ y0 y1 y2 y3, LeO (turnspitref09_New.l0 k y0 y1 y2 y3) (turnspitref09_New.l0 (k + 1) y0 y1 y2 y3))
 | 0 => ⟨fun _ _ r h => by simp [turnspitref09_New.j0] at h, fun _ _ _ _ r h => by simp [turnspitref09_New.l0] at h⟩
 | k + 1 => by
  obtain ⟨ih0, ih1⟩ := turnspitref09_New.mono_l k
  refine ⟨?_, ?_⟩
  ·intro y0 y1
   unfold turnspitref09_New.j0
   repeat' first
   | (with_reducible exact ih0 _ _)
   | (with_reducible exact ih1 _ _ _ _)
   | (with_reducible exact LeO.refl _)
   | (with_reducible exact LeO.none _)
   | (with_reducible refine LeO.ite ?_ ?_)
   | (with_reducible refine LeO.bind ?_ (fun _ => ?_))
   | exact ih0 _ _
   | exact ih1 _ _ _ _
   | exact LeO.none _
   | refine LeO.ite ?_ ?_
   | refine LeO.bind ?_ (fun _ => ?_)
  ·intro y0 y1 y2 y3
   unfold turnspitref09_New.l0
   repeat' first
   | (with_reducible exact ih0 _ _)
   | (with_reducible exact ih1 _ _ _ _)
   | (with_reducible exact LeO.refl _)
   | (with_reducible exact LeO.none _)
   | (with_reducible refine LeO.ite ?_ ?_)
   | (with_reducible refine LeO.bind ?_ (fun _ => ?_))
   | exact ih0 _ _
   | exact ih1 _ _ _ _
   | exact LeO.none _
   | refine LeO.ite ?_ ?_
   | refine LeO.bind ?_ (fun _ => ?_)
theorem turnspitref09_New.mono : ∀ a0 k, LeO (turnspitref09_New.f k a0) (turnspitref09_New.f (k + 1) a0) := by
 intro a0 k
 obtain ⟨ih0, ih1⟩ := turnspitref09_New.mono_l k
 unfold turnspitref09_New.f
 repeat' first
   | (with_reducible exact ih0 _ _)
   | (with_reducible exact ih1 _ _ _ _)
   | (with_reducible exact LeO.refl _)
   | (with_reducible exact LeO.none _)
   | (with_reducible refine LeO.ite ?_ ?_)
   | (with_reducible refine LeO.bind ?_ (fun _ => ?_))
   | exact ih0 _ _
   | exact ih1 _ _ _ _
   | exact LeO.none _
   | refine LeO.ite ?_ ?_
   | refine LeO.bind ?_ (fun _ => ?_)
set_option maxHeartbeats 8000000 in
set_option maxRecDepth 100000 in
theorem turnspitref09_New.calls (k : Nat) (a0 : Int) (r1 : Int) (r2 : List (S57)) (r3 : Int) (w : World) (hT : Tm.Emp w) (h : turnspitref09_New.f k a0 = some (r1, r2, r3)) :
  Calls Tryd.prog 26 #[.int .i64 a0] w fun e w' => ∃ v1_ : Value, e = .returned (.tuple #[.agg #[.int .i64 r1, v1_], .int .i64 r3]) ∧ Kd.R k57 57 w' w.heap.size (fun _ => True) v1_ r2 ∧ Below w.heap.size w w' := by
 have hu24 := Tryd.underlying24
 have HB := zA.mk (Below.refl w.heap.size w)
 have H : (if a0 < 0 then (turnspitref09_New.j0 k a0 true) else (turnspitref09_New.j0 k a0 (decide (a0 > 64)))) = some (r1, r2, r3) := h
 clear h; have HC2 := zA.mk H; clear H
 go_enter Tryd.func26, Tryd.ntmps26
 go_upto_region 1 with (first | ((with_reducible refine xJ (N := 2) rfl ?_); refine xC ?hg (N := 2) ?hd (cs := #[.int .i64 0, .slice none 0 0]) (t := 24) ?hr ?_; (case hd => rfl); (case hg => rfl); (case hr => first | (go_simp; done) | (go_simp; rfl)); intro gb387 hg w3 hbox hb; have n0_ := zA.mk (zT (by repeat (first | (with_reducible first | exact HB.out | apply zH | apply zI | apply zJ) | exact HB.out)) hb); have n1_ := zA.mk (hbox); have n2_ := zA.mk ((by rw [hg]; exact (zW (by repeat (first | (with_reducible first | exact HB.out | apply zH | apply zI | apply zJ) | exact HB.out))) : w.heap.size ≤ gb387)); have n3_ := zA.mk ((by rw [hg]; exact (zW (by repeat (first | (with_reducible first | exact HB.out | apply zH | apply zI | apply zJ) | exact HB.out))) : w.heap.size ≤ gb387)); clear HB; have HB := n0_; have BK387 := n1_; have GW387 := n2_; have GE387 := n3_; clear n0_ n1_ n2_ n3_; clear hb hbox hg))
 (try simp only [Act.put, List.setIfInBounds_toArray, List.set_cons_zero, List.set_cons_succ])
 go_cut [11] (fun v11 wc => ∃ (kq : Nat) (x11_1 : Bool), v11 = .bool x11_1 ∧ zA (turnspitref09_New.j0 kq a0 x11_1 = some (r1, r2, r3)) ∧ zA (kq ≤ k) ∧ zA (wc.heap[gb387]? = some (.cells #[.int .i64 0, (.slice none 0 0)] 24 (0, 0))) ∧ zA (Below w.heap.size w wc))
 case first =>
  have H := HC2.out; clear HC2
  by_cases c4 : a0 < 0
  ·rw [if_pos c4] at H
   have c4b0 : decide (a0 < 0) = true := decide_eq_true c4
   clear c4
   (first | rw [c4b0] | (simp only [zU, zV]; rw [c4b0]) | skip)
   have H' := zA.mk H
   clear H
   go_wp2
   go_meet
   case rel => exact ⟨_, (true), (by first | rfl | (simp; done) | (simp [*]; done)), H', ⟨by first | omega | exact Nat.le_refl _⟩, ⟨by (with_reducible repeat (first | apply zC | apply zG | apply zD)); exact BK387.out⟩, ⟨by repeat (first | (with_reducible first | exact HB.out | apply zH | apply zI | apply zJ | refine zB ?_ GE387.out) | exact HB.out)⟩⟩
  rw [if_neg c4] at H
  have c4b0 : decide (a0 < 0) = false := decide_eq_false c4
  clear c4
  (first | rw [c4b0] | (simp only [zU, zV]; rw [c4b0]) | skip)
  have H' := zA.mk H
  clear H
  go_wp2
  go_meet
  case rel => exact ⟨_, (decide (a0 > 64)), (by first | rfl | (simp; done) | (simp [*]; done)), H', ⟨by first | omega | exact Nat.le_refl _⟩, ⟨by (with_reducible repeat (first | apply zC | apply zG | apply zD)); exact BK387.out⟩, ⟨by repeat (first | (with_reducible first | exact HB.out | apply zH | apply zI | apply zJ | refine zB ?_ GE387.out) | exact HB.out)⟩⟩
 case rest =>
  clear HC2; (try clear c2); (try clear p2); (try clear c4); (try clear c4b0)
  obtain ⟨kq, x11_1, rfl, HA, HJ1, BK387, HB⟩ := hcut
  cases kq with
  | zero => exact absurd HA.out (by simp [turnspitref09_New.j0])
  | succ kj1 =>
   have H := HA.out; clear HA
   simp only [turnspitref09_New.j0] at H
   by_cases c5 : x11_1 = true
   ·subst c5
    have H1 : (some (0, ([] : List (S57)), 1)) = some (r1, r2, r3) := by first | (rw [if_pos rfl] at H; exact H) | (rw [if_pos trivial] at H; exact H)
    clear H; have H := H1; clear H1
    simp only [Option.some.injEq, Prod.mk.injEq] at H
    obtain ⟨rfl, rfl, rfl⟩ := H
    have hcz6_0 : wc.cell? ⟨gb387, 0, none⟩ = some (.int .i64 0) := (zF BK387.out 0).trans rfl; have hcz6_1 : wc.cell? ⟨gb387, 1, none⟩ = some (.slice none 0 0) := (zF BK387.out 1).trans rfl; have hfz6_0 := zL BK387.out 0; have hfz6_1 := zL BK387.out 1
    go_wp2
    refine bodyPost_ret (Go.Proofs.YtfapmcpmfeigbaaDoorW.PrintWords.yL rfl _ _ gb387 24 #[.int .i64 0, .slice none 0 0] (0, 0) _ rfl (by (with_reducible repeat (first | apply zC | apply zG | apply zD)); refine yK (cs := #[.int .i64 0, .slice none 0 0]) ?_ 1 _ rfl; (with_reducible repeat (first | apply zC | apply zG | apply zD)); refine yK (cs := #[.int .i64 0, .slice none 0 0]) ?_ 0 _ rfl; (with_reducible repeat (first | apply zC | apply zG | apply zD)); exact BK387.out) Tryd.underlying24 rfl (by kernel_rfl)) rfl ?_
    exact ⟨_, by first | rfl | (simp [xI, xH] <;> rfl) | (simp [*, xI, xH] <;> rfl), by first | exact Kd.vE _ _ _ _ _ | exact Kd.N_nil _ _ _ _ _ | exact Kd.V_nil _ _ _ _ _ | exact Kd.Q_nil _ _ _ _ _ | exact Kd.S_nil _ _ _ _ _, by repeat (first | (with_reducible first | exact HB.out | apply zH | apply zI | apply zJ | refine zB ?_ GE387.out) | exact HB.out)⟩
   replace c5 := Bool.eq_false_iff.mpr c5
   subst c5
   have H1 : (turnspitref09_New.l0 kj1 a0 0 (-1) ([] : List (S57))) = some (r1, r2, r3) := by first | (rw [if_neg (show ¬ (false = true) by decide)] at H; exact H) | (rw [if_neg (fun h => h)] at H; exact H)
   clear H; have H := H1; clear H1
   have H' := zA.mk H
   clear H
   go_wp2_with (first | ((with_reducible refine xJ (N := 4) rfl ?_); refine xC ?hg (N := 4) ?hd (cs := #[.int .i64 0, .slice none 0 0]) (t := 24) ?hr ?_; (case hd => rfl); (case hg => rfl); (case hr => first | (go_simp; done) | (go_simp; rfl)); intro gb388 hg w7 hbox hb; have n0_ := zA.mk (zK (g := gb387) (o := .cells #[.int .i64 0, .slice none 0 0] 24 (0, 0)) (by (with_reducible repeat (first | apply zC | apply zG | apply zD)); exact BK387.out) hb); have n1_ := zA.mk (zT (by repeat (first | (with_reducible first | exact HB.out | apply zH | apply zI | apply zJ | refine zB ?_ GE387.out) | exact HB.out)) hb); have n2_ := zA.mk (hbox); have n3_ := zA.mk ((by rw [hg]; exact (zW (by repeat (first | (with_reducible first | exact HB.out | apply zH | apply zI | apply zJ | refine zB ?_ GE387.out) | exact HB.out))) : w.heap.size ≤ gb388)); have n4_ := zA.mk ((by rw [hg]; exact (zW (by repeat (first | (with_reducible first | exact HB.out | apply zH | apply zI | apply zJ | refine zB ?_ GE387.out) | exact HB.out))) : w.heap.size ≤ gb388)); have n5_ := zA.mk ((by rw [hg]; exact Nat.ne_of_lt (yA (g := gb387) (o := .cells #[.int .i64 0, .slice none 0 0] 24 (0, 0)) (by (with_reducible repeat (first | apply zC | apply zG | apply zD)); exact BK387.out)) : gb387 ≠ gb388)); have n6_ := zA.mk ((by rw [hg]; exact Nat.ne_of_gt (yA (g := gb387) (o := .cells #[.int .i64 0, .slice none 0 0] 24 (0, 0)) (by (with_reducible repeat (first | apply zC | apply zG | apply zD)); exact BK387.out)) : gb388 ≠ gb387)); clear BK387 HB; have BK387 := n0_; have HB := n1_; have BK388 := n2_; have GW388 := n3_; have GE388 := n4_; have NB387_388 := n5_; have NB388_387 := n6_; clear n0_ n1_ n2_ n3_ n4_ n5_ n6_; clear hb hbox hg; have hnb8 := NB388_387.out; have hnc8 := NB387_388.out; have hcz9_0 : w7.cell? ⟨gb388, 0, none⟩ = some (.int .i64 0) := (zF BK388.out 0).trans rfl; have hcz9_1 : w7.cell? ⟨gb388, 1, none⟩ = some (.slice none 0 0) := (zF BK388.out 1).trans rfl; have hfz9_0 := zL BK388.out 0; have hfz9_1 := zL BK388.out 1))
   go_loopg [5] kj1 (fun kq v5 w' => ∃ (x5_2 : Int) (x389001_2 : List (S57)) (u389001 : Value), v5 = .int .i64 x5_2 ∧ zA (turnspitref09_New.l0 kq a0 x5_2 (-1) x389001_2 = some (r1, r2, r3)) ∧ zA (kq ≤ kj1) ∧ zA (Kd.R k57 57 w' w.heap.size (fun _ => True) u389001 x389001_2) ∧ zA (w'.heap[gb387]? = some (.cells #[.int .i64 0, (.slice none 0 0)] 24 (0, 0))) ∧ zA (w'.heap[gb388]? = some (.cells #[.int .i64 (-1), u389001] 24 (0, 0))) ∧ zA (Below w.heap.size w w'))
   case atStart => exact ⟨(0), (([] : List (S57))), (.slice none 0 0), (by first | rfl | (simp; done) | (simp [*]; done)), H', ⟨Nat.le_refl _⟩, ⟨by first | exact Kd.vE _ _ _ _ _ | exact Kd.N_nil _ _ _ _ _ | exact Kd.V_nil _ _ _ _ _ | exact Kd.Q_nil _ _ _ _ _ | exact Kd.S_nil _ _ _ _ _⟩, ⟨by (with_reducible repeat (first | apply zC | apply zG | apply zD)); refine zX ?_ NB387_388.out _; (with_reducible repeat (first | apply zC | apply zG | apply zD)); refine zX ?_ NB387_388.out _; (with_reducible repeat (first | apply zC | apply zG | apply zD)); exact BK387.out⟩, ⟨by (with_reducible repeat (first | apply zC | apply zG | apply zD)); refine yK (cs := #[.int .i64 (-1), .slice none 0 0]) ?_ 1 _ rfl; (with_reducible repeat (first | apply zC | apply zG | apply zD)); refine yK (cs := #[.int .i64 0, .slice none 0 0]) ?_ 0 _ rfl; (with_reducible repeat (first | apply zC | apply zG | apply zD)); exact BK388.out⟩, ⟨by repeat (first | (with_reducible first | exact HB.out | apply zH | apply zI | apply zJ | refine zB ?_ GE387.out | refine zB ?_ GE388.out) | exact HB.out)⟩⟩
   case round =>
    clear H'; (try clear c2); (try clear p2); (try clear c4); (try clear c4b0); (try clear c5); (try clear c8); (try clear hcz6_0); (try clear hcz6_1); (try clear hcz9_0); (try clear hcz9_1); (try clear hfz6_0); (try clear hfz6_1); (try clear hfz9_0); (try clear hfz9_1); (try clear p2)
    obtain ⟨x5_2, x389001_2, u389001, rfl, HA, HK2, HO_389001, BK387, BK388, HB⟩ := hrel
    cases gk with
    | zero => exact absurd HA.out (by simp [turnspitref09_New.l0])
    | succ k2 =>
     have H := HA.out; clear HA
     simp only [turnspitref09_New.l0] at H
     by_cases c10 : x5_2 < a0
     rotate_left
     ·rw [if_neg c10] at H
      have c10b0 : decide (x5_2 < a0) = false := decide_eq_false c10
      clear c10
      simp only [Option.some.injEq, Prod.mk.injEq] at H
      obtain ⟨rfl, rfl, rfl⟩ := H
      have hnb18 := NB388_387.out; have hnc18 := NB387_388.out; have hcz19_0 : wr.cell? ⟨gb388, 0, none⟩ = some (.int .i64 (-1)) := (zF BK388.out 0).trans rfl; have hcz19_1 : wr.cell? ⟨gb388, 1, none⟩ = some (u389001) := (zF BK388.out 1).trans rfl; have hfz19_0 := zL BK388.out 0; have hfz19_1 := zL BK388.out 1; have hcz20_0 : wr.cell? ⟨gb387, 0, none⟩ = some (.int .i64 0) := (zF BK387.out 0).trans rfl; have hcz20_1 : wr.cell? ⟨gb387, 1, none⟩ = some (.slice none 0 0) := (zF BK387.out 1).trans rfl; have hfz20_0 := zL BK387.out 0; have hfz20_1 := zL BK387.out 1
      obtain ⟨Ao21, co21, eo21⟩ := Kd.xV HO_389001.out
      subst eo21
      go_wp2
      refine bodyPost_ret (Go.Proofs.YtfapmcpmfeigbaaDoorW.PrintWords.yL rfl _ _ gb387 24 #[.int .i64 (-1), .slice Ao21 x389001_2.length co21] (0, 0) _ rfl (by (with_reducible repeat (first | apply zC | apply zG | apply zD)); refine yK (cs := #[.int .i64 (-1), .slice none 0 0]) ?_ 1 _ rfl; (with_reducible repeat (first | apply zC | apply zG | apply zD)); refine yK (cs := #[.int .i64 0, .slice none 0 0]) ?_ 0 _ rfl; (with_reducible repeat (first | apply zC | apply zG | apply zD)); exact BK387.out) Tryd.underlying24 rfl (by kernel_rfl)) rfl ?_
      exact ⟨_, by first | rfl | (simp [xI, xH] <;> rfl) | (simp [*, xI, xH] <;> rfl), by (with_reducible repeat (first | apply Kd.zO | apply Kd.zM | apply Kd.zS)); exact Kd.yF (Kd.yH (p := ⟨gb387, 1, none⟩) (Kd.yH (p := ⟨gb387, 0, none⟩) (Kd.yR HO_389001.out BK387.out (by decide)) (fun _ hk => hk.2) (.int .i64 (-1))) (fun _ hk => hk.2) (.slice Ao21 x389001_2.length co21)) (fun _ hk => trivial), by repeat (first | (with_reducible first | exact HB.out | apply zH | apply zI | apply zJ | refine zB ?_ GE387.out | refine zB ?_ GE388.out) | exact HB.out)⟩
     rw [if_pos c10] at H
     have c10b0 : decide (x5_2 < a0) = true := decide_eq_true c10
     clear c10
     replace H := Option.bind_eq_some_iff.mp H
     obtain ⟨⟨t389, t390, t391, t392, t393, t394⟩, A110, H⟩ := H
     replace H : (if x389001_2.length < 3518437208883 then (turnspitref09_New.l0 k2 a0 (wrap64 (x5_2 + 1)) (-1) (x389001_2 ++ [(⟨t389, t390, t391, t392, t393, t394⟩ : S57)])) else (none)) = some (r1, r2, r3) := H
     have A11 := zA.mk A110; clear A110
     by_cases c12 : x389001_2.length < 3518437208883
     rotate_left
     ·rw [if_neg c12] at H
      exact absurd H (by simp)
     rw [if_pos c12] at H
     have LMc12 := zA.mk c12; clear c12
     obtain ⟨y395, hy395⟩ : ∃ y_ : List (S57), y_ = (x389001_2 ++ [(⟨t389, t390, t391, t392, t393, t394⟩ : S57)]) := ⟨_, rfl⟩
     replace H : (turnspitref09_New.l0 k2 a0 (wrap64 (x5_2 + 1)) (-1) y395) = some (r1, r2, r3) := by first | (rw [hy395]; with_reducible exact H) | (have H2_ := (Option.bind_some _ _).symm.trans H; rw [hy395]; with_reducible exact H2_) | (have H2_ := (Option.bind_some _ _).symm.trans H; with_reducible exact H2_) | with_reducible exact H | (rw [hy395]; exact H) | exact H
     have Ny395 := zA.mk hy395; clear hy395
     have H' := zA.mk H
     clear H
     try go_wp2
     have n0_ := zA.mk (Kd.zS HO_389001.out)
     have n1_ := zA.mk (zG BK387.out)
     have n2_ := zA.mk (zG BK388.out)
     have n3_ := zA.mk (zJ HB.out)
     clear HO_389001 BK387 BK388 HB; have HO_389001 := n0_; have BK387 := n1_; have BK388 := n2_; have HB := n3_; clear n0_ n1_ n2_ n3_
     refine jQ (n := 7) (S := fun w' => w'.cell? ⟨gb388, 0, none⟩ = some (.int .i64 (-1)) ∧ w'.cell? ⟨gb388, 1, none⟩ = some (u389001)) (ds := [6]) #[false, false, false, false, false, false, false] (by kernel_rfl) rfl rfl ⟨(zF BK388.out 0).trans rfl, (zF BK388.out 1).trans rfl⟩ (fun hHeld => ?_)
     generalize wr.drew = w13 at HO_389001 BK387 BK388 HB hHeld ⊢
     refine yB (i := 0) (N := some 19) (v := ?_) (a' := ?_) #[true, false, false, false, false, false, false] rfl rfl (by kernel_rfl) (fun _ _ _ h => h) (Or.inl ⟨by rfl, ?_⟩) ?_ ?_
     rotate_left
     ·intro w'
      go_simp
      with_reducible rfl
     rotate_left
     ·simp only [Act.put, List.setIfInBounds_toArray, List.set_cons_zero, List.set_cons_succ, zU, zV]
      rfl
     refine x9 (i := 1) (N := some 20) (v := ?_) (a' := ?_) #[true, true, false, false, false, false, false] rfl rfl (by kernel_rfl) (fun _ _ _ h => h) (Or.inl ⟨by rfl, ?_⟩) hHeld ?_ ?_
     rotate_left
     ·rintro w' ⟨s0, s1⟩
      go_simp
      with_reducible rfl
     rotate_left
     ·simp only [Act.put, List.setIfInBounds_toArray, List.set_cons_zero, List.set_cons_succ, zU, zV]
      rfl
     refine one_ (i := 2) (N := some 21) #[true, true, true, false, false, false, false] rfl rfl (by kernel_rfl) (by decide) (fun K hK => ?_)
     refine qF Tryd.func40 (by kernel_rfl) rfl #[] (by rfl) rfl rfl (by (try simp only [List.map_toArray, List.map_cons, List.map_nil]); first | done | rfl | (simp only [List.length_drop, List.length_take]; rfl)) ?_
     with_reducible refine (turnspitref09_Empty.calls  t389 t390 t391 t392 t393 t394 _ (by first | exact hT | ((repeat (first | exact hT | apply Tm.Emp.drewN | apply Tm.Emp.drew)); done) | exact Tm.Emp.below hT (by repeat (first | (with_reducible first | exact HB.out | apply zH | apply zI | apply zJ | refine zB ?_ (zA.out (by assumption))) | exact HB.out))) A11.out).mono ?_
     rintro e w14 ⟨rfl, hb⟩
     refine ⟨_, rfl, ?_⟩
     have n0_ := zA.mk (Kd.yG (by (with_reducible repeat (first | apply Kd.zO | apply Kd.zM | apply Kd.zS)); exact HO_389001.out) hb)
     have n1_ := zA.mk (zK (g := gb387) (o := .cells #[.int .i64 0, .slice none 0 0] 24 (0, 0)) (by (with_reducible repeat (first | apply zC | apply zG | apply zD)); exact BK387.out) hb)
     have n2_ := zA.mk (zK (g := gb388) (o := .cells #[.int .i64 (-1), u389001] 24 (0, 0)) (by (with_reducible repeat (first | apply zC | apply zG | apply zD)); exact BK388.out) hb)
     have n3_ := zA.mk (zT (by repeat (first | (with_reducible first | exact HB.out | apply zH | apply zI | apply zJ | refine zB ?_ GE387.out | refine zB ?_ GE388.out) | exact HB.out)) hb)
     clear HO_389001 BK387 BK388 HB; have HO_389001 := n0_; have BK387 := n1_; have BK388 := n2_; have HB := n3_; clear n0_ n1_ n2_ n3_
     (try clear hb)
     (try clear hb2)
     (try clear hk)
     (try clear hi)
     refine hK.out _ _ ⟨(zF BK388.out 0).trans rfl, (zF BK388.out 1).trans rfl⟩ (fun hHeld => ?_)
     clear hK K
     refine xA (a' := ?_) ?_ ?_
     rotate_left
     ·show Act.put _ (some 21) _ = _
      simp only [Act.put, List.setIfInBounds_toArray, List.set_cons_zero, List.set_cons_succ, zU, zV]
      rfl
     refine one_ (i := 3) (N := some 22) #[true, true, true, true, false, false, false] rfl rfl (by kernel_rfl) (by decide) (fun K hK => ?_)
     refine value_ (w1 := ?_) (v := ?_) (by rfl) rfl ?_ ?_
     rotate_left 2
     ·go_simp
      constructor
      ·rfl
      ·rfl
     refine hK.out _ _ ⟨(zF (zD BK388.out _) 0).trans rfl, (zF (zD BK388.out _) 1).trans rfl⟩ (fun hHeld => ?_)
     clear hK K
     refine xA (a' := ?_) ?_ ?_
     rotate_left
     ·show Act.put _ (some 22) _ = _
      simp only [Act.put, List.setIfInBounds_toArray, List.set_cons_zero, List.set_cons_succ, zU, zV]
      rfl
     refine one_ (i := 4) (N := some 23) #[true, true, true, true, true, false, false] rfl rfl (by kernel_rfl) (by decide) (fun K hK => ?_)
     refine Kd.R_append_step k57 (w0 := w) w.heap.size (by rfl) (.tmp 20) (.tmp 22) 22 57 (.agg #[(.bool false), (.bool false), (.int .u64 0), (.int .i64 0), (.int .i64 0), (.int .i64 0)]) 40 rfl Tryd.underlying22 info57 rfl (by decide) (by omega) u389001 x389001_2 (⟨t389, t390, t391, t392, t393, t394⟩ : S57) [.bool t389, .bool t390, .int .u64 t391, .int .i64 t392, .int .i64 t393, .int .i64 t394] (fun _ => True) (fun _ => False) rfl rfl ?aP (fun _ hk => hk.elim) ?aF ?aO ?aB ?aS ?aL ?_
     (case aP => exact zbc _ _ _ (⟨t389, t390, t391, t392, t393, t394⟩ : S57))
     (case aB => exact (by repeat (first | (with_reducible first | exact HB.out | apply zH | apply zI | apply zJ | refine zB ?_ GE387.out | refine zB ?_ GE388.out) | exact HB.out)))
     (case aF => exact (fun _ _ => trivial))
     (case aO => exact (by (with_reducible repeat (first | apply Kd.zO | apply Kd.zM | apply Kd.zS)); exact HO_389001.out))
     (case aS => exact (zW (by repeat (first | (with_reducible first | exact HB.out | apply zH | apply zI | apply zJ | refine zB ?_ GE387.out | refine zB ?_ GE388.out) | exact HB.out))))
     (case aL => have := LMc12.out; omega)
     intro v396 w15 ho hb hg hat
     rw [← Ny395.out] at ho
     have n0_ := zA.mk (jG (g := gb387) (o := .cells #[.int .i64 0, .slice none 0 0] 24 (0, 0)) (by (with_reducible repeat (first | apply zC | apply zG | apply zD)); exact BK387.out) hg (Kd.R_ne HO_389001.out BK387.out (by decide)))
     have n1_ := zA.mk (jG (g := gb388) (o := .cells #[.int .i64 (-1), u389001] 24 (0, 0)) (by (with_reducible repeat (first | apply zC | apply zG | apply zD)); exact BK388.out) hg (Kd.R_ne HO_389001.out BK388.out (by decide)))
     have n2_ := zA.mk (hb)
     have n3_ := zA.mk (ho)
     clear BK387 BK388 HB HO_389001; have BK387 := n0_; have BK388 := n1_; have HB := n2_; have HO397 := n3_; clear n0_ n1_ n2_ n3_; clear ho hb hg hat
     obtain ⟨Ao16, co16, eo16⟩ := Kd.xV HO397.out
     (first | subst eo16 | (injection eo16 with f1_ f2_ f3_; have f4_ := f1_.symm; have f5_ := f3_.symm; clear f1_ f2_ f3_; subst f4_; subst f5_))
     refine hK.out _ _ ⟨(zF BK388.out 0).trans rfl, (zF BK388.out 1).trans rfl⟩ (fun hHeld => ?_)
     clear hK K
     refine xA (a' := ?_) ?_ ?_
     rotate_left
     ·show Act.put _ (some 23) _ = _
      simp only [Act.put, List.setIfInBounds_toArray, List.set_cons_zero, List.set_cons_succ, zU, zV]
      rfl
     refine yB (i := 5) (N := some 24) (v := ?_) (a' := ?_) #[true, true, true, true, true, true, false] rfl rfl (by kernel_rfl) (fun _ _ _ h => h) (Or.inl ⟨by rfl, ?_⟩) ?_ ?_
     rotate_left
     ·intro w'
      go_simp
      with_reducible rfl
     rotate_left
     ·simp only [Act.put, List.setIfInBounds_toArray, List.set_cons_zero, List.set_cons_succ, zU, zV]
      rfl
     refine last_ (i := 6) (N := none) #[true, true, true, true, true, true, true] rfl rfl (by kernel_rfl) (by decide) (fun K hK => ?_)
     have hs17 : w15.cell? ⟨gb388, 1, none⟩ = some (u389001) := (zF BK388.out 1).trans rfl
     have hfs17 := zL BK388.out 1
     have hns17_0 := NB387_388.out; have hms17_0 := NB388_387.out
     refine zab (w1 := ?_) (by rfl) rfl ?_ ?_
     rotate_left
     ·go_simp
      rfl
     refine hK.out _ _ ?_
     clear hK K
     refine vJ (by kernel_rfl) ?_
     try go_wp2
     go_roundg k2
     case measure => have := HJ1.out; have := HK2.out; omega
     case rel => exact ⟨(wrap64 (x5_2 + 1)), (y395), (.slice Ao16 y395.length co16), (by first | rfl | (simp; done) | (simp [*]; done)), H', ⟨by have := HJ1.out; have := HK2.out; omega⟩, ⟨by (with_reducible repeat (first | apply Kd.zO | apply Kd.zM | apply Kd.zS)); exact Kd.yF (Kd.yH (p := ⟨gb388, 1, none⟩) (Kd.yR HO397.out BK388.out (by decide)) (fun _ hk => hk.2) (.slice Ao16 y395.length co16)) (fun _ hk => trivial)⟩, ⟨by (with_reducible repeat (first | apply zC | apply zG | apply zD)); refine zX ?_ NB387_388.out _; (with_reducible repeat (first | apply zC | apply zG | apply zD)); exact BK387.out⟩, ⟨by (with_reducible repeat (first | apply zC | apply zG | apply zD)); refine yK (cs := #[.int .i64 (-1), u389001]) ?_ 1 _ rfl; (with_reducible repeat (first | apply zC | apply zG | apply zD)); exact BK388.out⟩, ⟨by repeat (first | (with_reducible first | exact HB.out | apply zH | apply zI | apply zJ | refine zB ?_ GE387.out | refine zB ?_ GE388.out) | exact HB.out)⟩⟩
def turnspitlaw09_Op.f (a0 : Int) (a1 : Int) (a2 : Int) : Option (Bool × Int × Int) := if a2 = 0 then (none) else (some (((Int.tmod a1 4) != 3), IntKind.u64.wrap (a0 + (IntKind.u64.wrap (IntKind.u16.wrap (Int.tdiv a1 256)))), Int.tmod (wrap64 (Int.tdiv (wrap64 (a1)) 4)) a2))
def turnspitlaw09_Op.T1 : Bool × List (List Nat × List Nat) := (true, [([], []), ([0], [0]), ([1], [1]), ([], []), ([], []), ([4], [4]), ([5], [5]), ([3, 6], [3, 6]), ([], []), ([8], [8]), ([9], [9]), ([], []), ([10, 11], [10, 11]), ([7, 12], [7, 12]), ([2, 0, 1, 2], [2]), ([13, 14, 0, 1, 2, 3, 4, 5, 6, 7, 8, 9, 10, 11, 12, 13, 14], [13])])
def turnspitlaw09_Op.B1 : List Nat := [0, 1, 3, 0, 0, 16, 48, 120, 0, 256, 768, 0, 3840, 8184, 7, 32767]
theorem turnspitlaw09_Op.tab1 : rtab .any (opsOf Tryd.f28 1) = turnspitlaw09_Op.T1 := by kernel_rfl
theorem turnspitlaw09_Op.bits1 : vL turnspitlaw09_Op.T1.2 turnspitlaw09_Op.B1 = true := by kernel_rfl
set_option maxHeartbeats 8000000 in
set_option maxRecDepth 100000 in
theorem turnspitlaw09_Op.calls (a0 : Int) (a1 : Int) (a2 : Int) (r1 : Bool) (r2 : Int) (r3 : Int) (w : World) (hT : Tm.Emp w) (h : turnspitlaw09_Op.f a0 a1 a2 = some (r1, r2, r3)) :
  Calls Tryd.prog 28 #[.int .u64 a0, .int .u16 a1, .int .i64 a2] w fun e w' => e = .returned (.tuple #[.bool r1, .agg #[.int .u64 r2, .int .i64 r3]]) ∧ Below w.heap.size w w' := by
 have hu27 := Tryd.underlying27
 have HB := zA.mk (Below.refl w.heap.size w)
 have H : (if a2 = 0 then (none) else (some (((Int.tmod a1 4) != 3), IntKind.u64.wrap (a0 + (IntKind.u64.wrap (IntKind.u16.wrap (Int.tdiv a1 256)))), Int.tmod (wrap64 (Int.tdiv (wrap64 (a1)) 4)) a2))) = some (r1, r2, r3) := h
 clear h
 by_cases c4 : a2 = 0
 ·rw [if_pos c4] at H
  exact absurd H (by simp)
 rw [if_neg c4] at H
 have c4b0 : (a2 == 0) = false := beq_eq_false_iff_ne.mpr c4
 have c4b1 : (a2 != 0) = true := bne_iff_ne.mpr c4
 simp only [Option.some.injEq, Prod.mk.injEq] at H
 obtain ⟨rfl, rfl, rfl⟩ := H
 go_enter Tryd.func28, Tryd.ntmps28
 try go_wp2_with (first | ((with_reducible refine xJ (N := 7) rfl ?_); refine xC ?hg (N := 7) ?hd (cs := #[.int .u64 0, .int .i64 0]) (t := 27) ?hr ?_; (case hd => rfl); (case hg => rfl); (case hr => first | (go_simp; done) | (go_simp; rfl)); intro gb398 hg w5 hbox hb; have n0_ := zA.mk (zT (by repeat (first | (with_reducible first | exact HB.out | apply zH | apply zI | apply zJ) | exact HB.out)) hb); have n1_ := zA.mk (hbox); have n2_ := zA.mk ((by rw [hg]; exact (zW (by repeat (first | (with_reducible first | exact HB.out | apply zH | apply zI | apply zJ) | exact HB.out))) : w.heap.size ≤ gb398)); have n3_ := zA.mk ((by rw [hg]; exact (zW (by repeat (first | (with_reducible first | exact HB.out | apply zH | apply zI | apply zJ) | exact HB.out))) : w.heap.size ≤ gb398)); clear HB; have HB := n0_; have BK398 := n1_; have GW398 := n2_; have GE398 := n3_; clear n0_ n1_ n2_ n3_; clear hb hbox hg))
 have n0_ := zA.mk (zG BK398.out)
 have n1_ := zA.mk (zJ HB.out)
 clear BK398 HB; have BK398 := n0_; have HB := n1_; clear n0_ n1_
 refine jQ (n := 16) (S := fun w' => True) (ds := []) #[false, false, false, false, false, false, false, false, false, false, false, false, false, false, false, false] (by kernel_rfl) rfl rfl trivial (fun hHeld => ?_); refine wK turnspitlaw09_Op.tab1 turnspitlaw09_Op.bits1 (fun HT_ HW_ => ?_)
 generalize w5.drew = w6 at BK398 HB hHeld ⊢
 refine yB (i := 0) (N := some 8) (v := ?_) (a' := ?_) #[true, false, false, false, false, false, false, false, false, false, false, false, false, false, false, false] rfl rfl (yJ HT_.out (by kernel_rfl)) (fun _ _ _ h => h) (Or.inl ⟨by rfl, ?_⟩) ?_ ?_
 rotate_left
 ·intro w'
  go_simp
  with_reducible rfl
 rotate_left
 ·simp only [Act.put, List.setIfInBounds_toArray, List.set_cons_zero, List.set_cons_succ, zU, zV]
  rfl
 refine yB (i := 1) (N := some 9) (v := ?_) (a' := ?_) #[true, true, false, false, false, false, false, false, false, false, false, false, false, false, false, false] rfl rfl (yJ HT_.out (by kernel_rfl)) (fun _ _ _ h => h) (Or.inl ⟨by rfl, ?_⟩) ?_ ?_
 rotate_left
 ·intro w'
  go_simp
  with_reducible rfl
 rotate_left
 ·simp only [Act.put, List.setIfInBounds_toArray, List.set_cons_zero, List.set_cons_succ, zU, zV]
  rfl
 refine yB (i := 2) (N := some 10) (v := ?_) (a' := ?_) #[true, true, true, false, false, false, false, false, false, false, false, false, false, false, false, false] rfl rfl (yJ HT_.out (by kernel_rfl)) (fun _ _ _ h => h) (Or.inl ⟨by rfl, ?_⟩) ?_ ?_
 rotate_left
 ·intro w'
  go_simp
  with_reducible rfl
 rotate_left
 ·simp only [Act.put, List.setIfInBounds_toArray, List.set_cons_zero, List.set_cons_succ, zU, zV]
  rfl
 refine yB (i := 3) (N := some 11) (v := ?_) (a' := ?_) #[true, true, true, true, false, false, false, false, false, false, false, false, false, false, false, false] rfl rfl (yJ HT_.out (by kernel_rfl)) (fun _ _ _ h => h) (Or.inl ⟨by rfl, ?_⟩) ?_ ?_
 rotate_left
 ·intro w'
  go_simp
  with_reducible rfl
 rotate_left
 ·simp only [Act.put, List.setIfInBounds_toArray, List.set_cons_zero, List.set_cons_succ, zU, zV]
  rfl
 refine yB (i := 4) (N := some 12) (v := ?_) (a' := ?_) #[true, true, true, true, true, false, false, false, false, false, false, false, false, false, false, false] rfl rfl (yJ HT_.out (by kernel_rfl)) (fun _ _ _ h => h) (Or.inl ⟨by rfl, ?_⟩) ?_ ?_
 rotate_left
 ·intro w'
  go_simp
  with_reducible rfl
 rotate_left
 ·simp only [Act.put, List.setIfInBounds_toArray, List.set_cons_zero, List.set_cons_succ, zU, zV]
  rfl
 refine yB (i := 5) (N := some 13) (v := ?_) (a' := ?_) #[true, true, true, true, true, true, false, false, false, false, false, false, false, false, false, false] rfl rfl (yJ HT_.out (by kernel_rfl)) (fun _ _ _ h => h) (Or.inl ⟨by rfl, ?_⟩) ?_ ?_
 rotate_left
 ·intro w'
  go_simp
  with_reducible rfl
 rotate_left
 ·simp only [Act.put, List.setIfInBounds_toArray, List.set_cons_zero, List.set_cons_succ, zU, zV]
  rfl
 refine yB (i := 6) (N := some 14) (v := ?_) (a' := ?_) #[true, true, true, true, true, true, true, false, false, false, false, false, false, false, false, false] rfl rfl (yJ HT_.out (by kernel_rfl)) (fun _ _ _ h => h) (Or.inl ⟨by rfl, ?_⟩) ?_ ?_
 rotate_left
 ·intro w'
  go_simp
  with_reducible rfl
 rotate_left
 ·simp only [Act.put, List.setIfInBounds_toArray, List.set_cons_zero, List.set_cons_succ, zU, zV]
  rfl
 refine yB (i := 7) (N := some 15) (v := ?_) (a' := ?_) #[true, true, true, true, true, true, true, true, false, false, false, false, false, false, false, false] rfl rfl (yJ HT_.out (by kernel_rfl)) (fun _ _ _ h => h) (Or.inl ⟨by rfl, ?_⟩) ?_ ?_
 rotate_left
 ·intro w'
  go_simp
  with_reducible rfl
 rotate_left
 ·simp only [Act.put, List.setIfInBounds_toArray, List.set_cons_zero, List.set_cons_succ, zU, zV]
  rfl
 refine yB (i := 8) (N := some 16) (v := ?_) (a' := ?_) #[true, true, true, true, true, true, true, true, true, false, false, false, false, false, false, false] rfl rfl (yJ HT_.out (by kernel_rfl)) (fun _ _ _ h => h) (Or.inl ⟨by rfl, ?_⟩) ?_ ?_
 rotate_left
 ·intro w'
  go_simp
  with_reducible rfl
 rotate_left
 ·simp only [Act.put, List.setIfInBounds_toArray, List.set_cons_zero, List.set_cons_succ, zU, zV]
  rfl
 refine yB (i := 9) (N := some 17) (v := ?_) (a' := ?_) #[true, true, true, true, true, true, true, true, true, true, false, false, false, false, false, false] rfl rfl (yJ HT_.out (by kernel_rfl)) (fun _ _ _ h => h) (Or.inl ⟨by rfl, ?_⟩) ?_ ?_
 rotate_left
 ·intro w'
  go_simp
  with_reducible rfl
 rotate_left
 ·simp only [Act.put, List.setIfInBounds_toArray, List.set_cons_zero, List.set_cons_succ, zU, zV]
  rfl
 refine yB (i := 10) (N := some 18) (v := ?_) (a' := ?_) #[true, true, true, true, true, true, true, true, true, true, true, false, false, false, false, false] rfl rfl (yJ HT_.out (by kernel_rfl)) (fun _ _ _ h => h) (Or.inl ⟨by rfl, ?_⟩) ?_ ?_
 rotate_left
 ·intro w'
  go_simp
  with_reducible rfl
 rotate_left
 ·simp only [Act.put, List.setIfInBounds_toArray, List.set_cons_zero, List.set_cons_succ, zU, zV]
  rfl
 refine yB (i := 11) (N := some 19) (v := ?_) (a' := ?_) #[true, true, true, true, true, true, true, true, true, true, true, true, false, false, false, false] rfl rfl (yJ HT_.out (by kernel_rfl)) (fun _ _ _ h => h) (Or.inl ⟨by rfl, ?_⟩) ?_ ?_
 rotate_left
 ·intro w'
  go_simp
  with_reducible rfl
 rotate_left
 ·simp only [Act.put, List.setIfInBounds_toArray, List.set_cons_zero, List.set_cons_succ, zU, zV]
  rfl
 refine yB (i := 12) (N := some 20) (v := ?_) (a' := ?_) #[true, true, true, true, true, true, true, true, true, true, true, true, true, false, false, false] rfl rfl (yJ HT_.out (by kernel_rfl)) (fun _ _ _ h => h) (Or.inl ⟨by rfl, ?_⟩) ?_ ?_
 rotate_left
 ·intro w'
  go_simp
  with_reducible rfl
 rotate_left
 ·simp only [Act.put, List.setIfInBounds_toArray, List.set_cons_zero, List.set_cons_succ, zU, zV]
  rfl
 refine yB (i := 13) (N := some 21) (v := ?_) (a' := ?_) #[true, true, true, true, true, true, true, true, true, true, true, true, true, true, false, false] rfl rfl (yJ HT_.out (by kernel_rfl)) (fun _ _ _ h => h) (Or.inl ⟨by rfl, ?_⟩) ?_ ?_
 rotate_left
 ·intro w'
  go_simp
  with_reducible rfl
 rotate_left
 ·simp only [Act.put, List.setIfInBounds_toArray, List.set_cons_zero, List.set_cons_succ, zU, zV]
  rfl
 refine yB (i := 14) (N := some 6) (v := ?_) (a' := ?_) #[true, true, true, true, true, true, true, true, true, true, true, true, true, true, true, false] rfl rfl (yJ HT_.out (by kernel_rfl)) (fun _ _ _ h => h) (Or.inl ⟨by rfl, ?_⟩) ?_ ?_
 rotate_left
 ·intro w'
  go_simp
  with_reducible rfl
 rotate_left
 ·simp only [Act.put, List.setIfInBounds_toArray, List.set_cons_zero, List.set_cons_succ, zU, zV]
  rfl
 refine one_ (i := 15) (N := none) #[true, true, true, true, true, true, true, true, true, true, true, true, true, true, true, true] rfl rfl (qW HT_.out (by kernel_rfl)) (by decide) (fun K hK => ?_)
 have hs7 : w6.cell? ⟨gb398, 0, none⟩ = some (.int .u64 0) := (zF BK398.out 0).trans rfl
 have hfs7 := zL BK398.out 0
 have hs8 : w6.cell? ⟨gb398, 1, none⟩ = some (.int .i64 0) := (zF BK398.out 1).trans rfl
 have hfs8 := zL BK398.out 1
 refine zab (w1 := ?_) (by rfl) rfl ?_ ?_
 rotate_left
 ·go_simp
  rfl
 refine hK.out _ _ trivial (fun hHeld => ?_)
 clear hK K
 refine vJ (zah HT_.out (by kernel_rfl)) ?_
 try go_wp2
 refine bodyPost_ret (results_tc rfl _ _ gb398 27 #[.int .u64 (IntKind.u64.wrap (a0 + (IntKind.u64.wrap (IntKind.u16.wrap (Int.tdiv a1 256))))), .int .i64 (Int.tmod (wrap64 (Int.tdiv (wrap64 (a1)) 4)) a2)] (0, 0) _ rfl (by (with_reducible repeat (first | apply zC | apply zG | apply zD)); refine yK (cs := #[.int .u64 (IntKind.u64.wrap (a0 + (IntKind.u64.wrap (IntKind.u16.wrap (Int.tdiv a1 256))))), .int .i64 0]) ?_ 1 _ rfl; (with_reducible repeat (first | apply zC | apply zG | apply zD)); refine yK (cs := #[.int .u64 0, .int .i64 0]) ?_ 0 _ rfl; (with_reducible repeat (first | apply zC | apply zG | apply zD)); exact BK398.out) Tryd.underlying27 rfl (by kernel_rfl)) rfl ?_
 exact ⟨by first | rfl | (simp [xI, xH] <;> rfl) | (simp [*, xI, xH] <;> rfl), by repeat (first | (with_reducible first | exact HB.out | apply zH | apply zI | apply zJ | refine zB ?_ GE398.out) | exact HB.out)⟩
mutual
def turnspitlaw09_Made.l0 : Nat → Int → List Int → Int → Int → List (S57) → Option (Int × (List (S57)))
 | 0, _, _, _, _, _ => none
 | k + 1, x0, x1, x7, x406000, x406001 => if x7 < (x1.length : Int) then (turnspitlaw09_Made.j1 k x0 x1 x7 (decide (x7 < 60)) x406000 x406001) else (turnspitlaw09_Made.j1 k x0 x1 x7 false x406000 x406001)
def turnspitlaw09_Made.j1 : Nat → Int → List Int → Int → Bool → Int → List (S57) → Option (Int × (List (S57)))
 | 0, _, _, _, _, _, _ => none
 | k + 1, x0, x1, x7, x25, x406000, x406001 => if x25 = true then (if 0 ≤ x7 then (if x7 < (x1.length : Int) then ((turnspitlaw09_Op.f x0 (rd x1 x7) 24).bind fun bt407 => ((turnspitref09_Delete.f x406000 x406001 x0 bt407.2.2).bind fun bt411 => (if bt407.1 = true then ((turnspitref09_Insert.f x406000 x406001 x0 bt407.2.1 bt407.2.2).bind fun bt417 => (if bt417.2.2 = 0 then (turnspitlaw09_Made.l0 k x0 x1 (wrap64 (x7 + 1)) bt417.1 bt417.2.1) else (turnspitlaw09_Made.l0 k x0 x1 (wrap64 (x7 + 1)) x406000 x406001))) else (if bt411.2.2 = 0 then (turnspitlaw09_Made.l0 k x0 x1 (wrap64 (x7 + 1)) bt411.1 bt411.2.1) else (turnspitlaw09_Made.l0 k x0 x1 (wrap64 (x7 + 1)) x406000 x406001))))) else (none)) else (none)) else (some (x406000, x406001))
end
def turnspitlaw09_Made.f (k : Nat) (a0 : Int) (l1 : List Int) : Option (Int × (List (S57))) := (turnspitref09_New.f k 24).bind fun bt400 => (turnspitlaw09_Made.l0 k a0 l1 0 bt400.1 bt400.2.1)
set_option maxHeartbeats 8000000 in
set_option maxRecDepth 100000 in
theorem turnspitlaw09_Made.calls (k : Nat) (a0 : Int) (A1 : Option Addr) (c1 : Nat) (l1 : List Int) (r1 : Int) (r2 : List (S57)) (w : World) (hr1 : Kd.C (Kd.int .u16) w A1 l1.length l1) (hc1 : l1.length ≤ c1) (hT : Tm.Emp w) (h : turnspitlaw09_Made.f k a0 l1 = some (r1, r2)) :
  Calls Tryd.prog 27 #[.int .u64 a0, .slice A1 l1.length c1] w fun e w' => ∃ v1_ : Value, e = .returned (.agg #[.int .i64 r1, v1_]) ∧ Kd.R k57 57 w' w.heap.size (fun _ => True) v1_ r2 ∧ Below w.heap.size w w' := by
 have hu24 := Tryd.underlying24
 have hu27 := Tryd.underlying27
 have HR1 := zA.mk hr1; have HC1 := zA.mk hc1; clear hr1 hc1
 have HB := zA.mk (Below.refl w.heap.size w)
 have H : ((turnspitref09_New.f k 24).bind fun bt400 => (turnspitlaw09_Made.l0 k a0 l1 0 bt400.1 bt400.2.1)) = some (r1, r2) := h
 clear h
 replace H := Option.bind_eq_some_iff.mp H
 obtain ⟨⟨t400, t401, t404⟩, A30, H⟩ := H
 replace H : (turnspitlaw09_Made.l0 k a0 l1 0 t400 t401) = some (r1, r2) := H
 have A3 := zA.mk A30; clear A30
 have H' := zA.mk H
 clear H
 go_enter Tryd.func27, Tryd.ntmps27
 go_wp2_with (first | ((with_reducible refine xJ (N := 4) rfl ?_); refine xC ?hg (N := 4) ?hd (cs := #[.int .i64 0, .slice none 0 0]) (t := 24) ?hr ?_; (case hd => rfl); (case hg => rfl); (case hr => first | (go_simp; done) | (go_simp; rfl)); intro gb399 hg w4 hbox hb; have n0_ := zA.mk (zT (by repeat (first | (with_reducible first | exact HB.out | apply zH | apply zI | apply zJ) | exact HB.out)) hb); have n1_ := zA.mk (hbox); have n2_ := zA.mk ((by rw [hg]; exact (zW (by repeat (first | (with_reducible first | exact HB.out | apply zH | apply zI | apply zJ) | exact HB.out))) : w.heap.size ≤ gb399)); have n3_ := zA.mk ((by rw [hg]; exact (zW (by repeat (first | (with_reducible first | exact HB.out | apply zH | apply zI | apply zJ) | exact HB.out))) : w.heap.size ≤ gb399)); clear HB; have HB := n0_; have BK399 := n1_; have GW399 := n2_; have GE399 := n3_; clear n0_ n1_ n2_ n3_; clear hb hbox hg) | ((with_reducible refine yY (f := 26) rfl ?_); refine qX (some 15) rfl rfl Tryd.func26 (by kernel_rfl) rfl #[.int .i64 24] rfl (by (try simp only [List.map_toArray, List.map_cons, List.map_nil]); first | done | rfl | (simp only [List.length_drop, List.length_take]; rfl)) ?_; (with_reducible refine (turnspitref09_New.calls k 24 t400 t401 t404 _ (by first | exact hT | ((repeat (first | exact hT | apply Tm.Emp.drewN | apply Tm.Emp.drew)); done) | exact Tm.Emp.below hT (by repeat (first | (with_reducible first | exact HB.out | apply zH | apply zI | apply zJ | refine zB ?_ (zA.out (by assumption))) | exact HB.out))) A3.out).mono ?_); rintro e w5 ⟨v402, rfl, ho0, hb⟩; refine ⟨_, rfl, ?_⟩; have n0_ := zA.mk (Kd.qB ho0 (zW (by repeat (first | (with_reducible first | exact HB.out | apply zH | apply zI | apply zJ | refine zB ?_ GE399.out) | exact HB.out)))); have n1_ := zA.mk (zK (g := gb399) (o := .cells #[.int .i64 0, .slice none 0 0] 24 (0, 0)) (by (with_reducible repeat (first | apply zC | apply zG | apply zD)); exact BK399.out) hb); have n2_ := zA.mk (zT (by repeat (first | (with_reducible first | exact HB.out | apply zH | apply zI | apply zJ | refine zB ?_ GE399.out) | exact HB.out)) hb); clear BK399 HB; have HO403 := n0_; have BK399 := n1_; have HB := n2_; clear n0_ n1_ n2_; (try clear hb); (try clear hb2); (try clear hk); (try clear hi); (try clear ho0)) | ((with_reducible refine xJ (N := 5) rfl ?_); refine xC ?hg (N := 5) ?hd (cs := #[.int .i64 0, .slice none 0 0]) (t := 24) ?hr ?_; (case hd => rfl); (case hg => rfl); (case hr => first | (go_simp; done) | (go_simp; rfl)); intro gb405 hg w6 hbox hb; have n0_ := zA.mk (Kd.yG (by (with_reducible repeat (first | apply Kd.zO | apply Kd.zM | apply Kd.zS)); exact HO403.out) hb); have n1_ := zA.mk (zK (g := gb399) (o := .cells #[.int .i64 0, .slice none 0 0] 24 (0, 0)) (by (with_reducible repeat (first | apply zC | apply zG | apply zD)); exact BK399.out) hb); have n2_ := zA.mk (zT (by repeat (first | (with_reducible first | exact HB.out | apply zH | apply zI | apply zJ | refine zB ?_ GE399.out) | exact HB.out)) hb); have n3_ := zA.mk (hbox); have n4_ := zA.mk ((by rw [hg]; exact (zW (by repeat (first | (with_reducible first | exact HB.out | apply zH | apply zI | apply zJ | refine zB ?_ GE399.out) | exact HB.out))) : w.heap.size ≤ gb405)); have n5_ := zA.mk ((by rw [hg]; exact (zW (by repeat (first | (with_reducible first | exact HB.out | apply zH | apply zI | apply zJ | refine zB ?_ GE399.out) | exact HB.out))) : w.heap.size ≤ gb405)); have n6_ := zA.mk ((by rw [hg]; exact Nat.ne_of_lt (yA (g := gb399) (o := .cells #[.int .i64 0, .slice none 0 0] 24 (0, 0)) (by (with_reducible repeat (first | apply zC | apply zG | apply zD)); exact BK399.out)) : gb399 ≠ gb405)); have n7_ := zA.mk ((by rw [hg]; exact Nat.ne_of_gt (yA (g := gb399) (o := .cells #[.int .i64 0, .slice none 0 0] 24 (0, 0)) (by (with_reducible repeat (first | apply zC | apply zG | apply zD)); exact BK399.out)) : gb405 ≠ gb399)); clear HO403 BK399 HB; have HO403 := n0_; have BK399 := n1_; have HB := n2_; have BK405 := n3_; have GW405 := n4_; have GE405 := n5_; have NB399_405 := n6_; have NB405_399 := n7_; clear n0_ n1_ n2_ n3_ n4_ n5_ n6_ n7_; clear hb hbox hg; have hnb7 := NB405_399.out; have hnc7 := NB399_405.out; have hcz8_0 : w6.cell? ⟨gb405, 0, none⟩ = some (.int .i64 0) := (zF BK405.out 0).trans rfl; have hcz8_1 : w6.cell? ⟨gb405, 1, none⟩ = some (.slice none 0 0) := (zF BK405.out 1).trans rfl; have hfz8_0 := zL BK405.out 0; have hfz8_1 := zL BK405.out 1; obtain ⟨Ao9, co9, eo9⟩ := Kd.xV HO403.out; subst eo9))
 go_loopg [7] k (fun kq v7 w' => ∃ (x7_1 : Int) (x406000_1 : Int) (x406001_1 : List (S57)) (u406001 : Value), v7 = .int .i64 x7_1 ∧ zA (turnspitlaw09_Made.l0 kq a0 l1 x7_1 x406000_1 x406001_1 = some (r1, r2)) ∧ zA (kq ≤ k) ∧ zA (Kd.R k57 57 w' w.heap.size (fun _ => True) u406001 x406001_1) ∧ zA (w'.heap[gb399]? = some (.cells #[.int .i64 0, (.slice none 0 0)] 24 (0, 0))) ∧ zA (w'.heap[gb405]? = some (.cells #[.int .i64 x406000_1, u406001] 24 (0, 0))) ∧ zA (Below w.heap.size w w'))
 case atStart => exact ⟨(0), (t400), (t401), (.slice Ao9 t401.length co9), (by first | rfl | (simp; done) | (simp [*]; done)), H', ⟨Nat.le_refl _⟩, ⟨by (with_reducible repeat (first | apply Kd.zO | apply Kd.zM | apply Kd.zS)); exact Kd.yF (Kd.yH (p := ⟨gb405, 1, none⟩) (Kd.yH (p := ⟨gb405, 0, none⟩) (Kd.yR HO403.out BK405.out (by decide)) (fun _ hk => hk.2) (.int .i64 t400)) (fun _ hk => hk.2) (.slice Ao9 t401.length co9)) (fun _ hk => trivial)⟩, ⟨by (with_reducible repeat (first | apply zC | apply zG | apply zD)); refine zX ?_ NB399_405.out _; (with_reducible repeat (first | apply zC | apply zG | apply zD)); refine zX ?_ NB399_405.out _; (with_reducible repeat (first | apply zC | apply zG | apply zD)); exact BK399.out⟩, ⟨by (with_reducible repeat (first | apply zC | apply zG | apply zD)); refine yK (cs := #[.int .i64 t400, .slice none 0 0]) ?_ 1 _ rfl; (with_reducible repeat (first | apply zC | apply zG | apply zD)); refine yK (cs := #[.int .i64 0, .slice none 0 0]) ?_ 0 _ rfl; (with_reducible repeat (first | apply zC | apply zG | apply zD)); exact BK405.out⟩, ⟨by repeat (first | (with_reducible first | exact HB.out | apply zH | apply zI | apply zJ | refine zB ?_ GE399.out | refine zB ?_ GE405.out) | exact HB.out)⟩⟩
 case round =>
  clear H'; (try clear c1); (try clear c2); (try clear p2); (try clear c7); (try clear hcz8_0); (try clear hcz8_1); (try clear hfz8_0); (try clear hfz8_1)
  obtain ⟨x7_1, x406000_1, x406001_1, u406001, rfl, HA, HK1, HO_406001, BK399, BK405, HB⟩ := hrel
  cases gk with
  | zero => exact absurd HA.out (by simp [turnspitlaw09_Made.l0])
  | succ k1 =>
   have H := HA.out; clear HA
   simp only [turnspitlaw09_Made.l0] at H
   have HC10 := zA.mk H; clear H
   go_upto_region 3 with (fail)
   go_cut [25] (fun v25 wc => ∃ (kq : Nat) (x25_9 : Bool), v25 = .bool x25_9 ∧ zA (turnspitlaw09_Made.j1 kq a0 l1 x7_1 x25_9 x406000_1 x406001_1 = some (r1, r2)) ∧ zA (kq ≤ k1) ∧ zA (Kd.R k57 57 wc w.heap.size (fun _ => True) u406001 x406001_1) ∧ zA (wc.heap[gb399]? = some (.cells #[.int .i64 0, (.slice none 0 0)] 24 (0, 0))) ∧ zA (wc.heap[gb405]? = some (.cells #[.int .i64 x406000_1, u406001] 24 (0, 0))) ∧ zA (Below w.heap.size w wc))
   case first =>
    have H := HC10.out; clear HC10
    by_cases c11 : x7_1 < (l1.length : Int)
    rotate_left
    ·rw [if_neg c11] at H
     have c11b0 : decide (x7_1 < (l1.length : Int)) = false := decide_eq_false c11
     clear c11
     (first | rw [c11b0] | (simp only [zU, zV]; rw [c11b0]) | skip)
     have H' := zA.mk H
     clear H
     go_wp2
     go_meet
     case rel => exact ⟨_, (false), (by first | rfl | (simp; done) | (simp [*]; done)), H', ⟨by have := HK1.out; first | omega | exact Nat.le_refl _⟩, ⟨by (with_reducible repeat (first | apply Kd.zO | apply Kd.zM | apply Kd.zS)); exact HO_406001.out⟩, ⟨by (with_reducible repeat (first | apply zC | apply zG | apply zD)); exact BK399.out⟩, ⟨by (with_reducible repeat (first | apply zC | apply zG | apply zD)); exact BK405.out⟩, ⟨by repeat (first | (with_reducible first | exact HB.out | apply zH | apply zI | apply zJ | refine zB ?_ GE399.out | refine zB ?_ GE405.out) | exact HB.out)⟩⟩
    rw [if_pos c11] at H
    have c11b0 : decide (x7_1 < (l1.length : Int)) = true := decide_eq_true c11
    clear c11
    (first | rw [c11b0] | (simp only [zU, zV]; rw [c11b0]) | skip)
    have H' := zA.mk H
    clear H
    go_wp2
    go_meet
    case rel => exact ⟨_, (decide (x7_1 < 60)), (by first | rfl | (simp; done) | (simp [*]; done)), H', ⟨by have := HK1.out; first | omega | exact Nat.le_refl _⟩, ⟨by (with_reducible repeat (first | apply Kd.zO | apply Kd.zM | apply Kd.zS)); exact HO_406001.out⟩, ⟨by (with_reducible repeat (first | apply zC | apply zG | apply zD)); exact BK399.out⟩, ⟨by (with_reducible repeat (first | apply zC | apply zG | apply zD)); exact BK405.out⟩, ⟨by repeat (first | (with_reducible first | exact HB.out | apply zH | apply zI | apply zJ | refine zB ?_ GE399.out | refine zB ?_ GE405.out) | exact HB.out)⟩⟩
   case rest =>
    clear HC10; (try clear c1); (try clear c2); (try clear p2); (try clear c7); (try clear c11); (try clear c11b0); (try clear hcz8_0); (try clear hcz8_1); (try clear hfz8_0); (try clear hfz8_1); (try clear p2)
    obtain ⟨kq, x25_9, rfl, HA, HJ9, HO_406001, BK399, BK405, HB⟩ := hcut
    cases kq with
    | zero => exact absurd HA.out (by simp [turnspitlaw09_Made.j1])
    | succ kj9 =>
     have H := HA.out; clear HA
     simp only [turnspitlaw09_Made.j1] at H
     by_cases c12 : x25_9 = true
     rotate_left
     ·replace c12 := Bool.eq_false_iff.mpr c12
      subst c12
      have H1 : (some (x406000_1, x406001_1)) = some (r1, r2) := by first | (rw [if_neg (show ¬ (false = true) by decide)] at H; exact H) | (rw [if_neg (fun h => h)] at H; exact H)
      clear H; have H := H1; clear H1
      simp only [Option.some.injEq, Prod.mk.injEq] at H
      obtain ⟨rfl, rfl⟩ := H
      have hnb105 := NB405_399.out; have hnc105 := NB399_405.out; have hcz106_0 : wc.cell? ⟨gb405, 0, none⟩ = some (.int .i64 x406000_1) := (zF BK405.out 0).trans rfl; have hcz106_1 : wc.cell? ⟨gb405, 1, none⟩ = some (u406001) := (zF BK405.out 1).trans rfl; have hfz106_0 := zL BK405.out 0; have hfz106_1 := zL BK405.out 1; have hcz107_0 : wc.cell? ⟨gb399, 0, none⟩ = some (.int .i64 0) := (zF BK399.out 0).trans rfl; have hcz107_1 : wc.cell? ⟨gb399, 1, none⟩ = some (.slice none 0 0) := (zF BK399.out 1).trans rfl; have hfz107_0 := zL BK399.out 0; have hfz107_1 := zL BK399.out 1
      obtain ⟨Ao108, co108, eo108⟩ := Kd.xV HO_406001.out
      subst eo108
      go_wp2
      refine bodyPost_ret (results_cell_row rfl _ _ gb399 24 #[.int .i64 x406000_1, .slice Ao108 x406001_1.length co108] (0, 0) _ rfl (by (with_reducible repeat (first | apply zC | apply zG | apply zD)); refine yK (cs := #[.int .i64 x406000_1, .slice none 0 0]) ?_ 1 _ rfl; (with_reducible repeat (first | apply zC | apply zG | apply zD)); refine yK (cs := #[.int .i64 0, .slice none 0 0]) ?_ 0 _ rfl; (with_reducible repeat (first | apply zC | apply zG | apply zD)); exact BK399.out) Tryd.underlying24 rfl (by kernel_rfl)) rfl ?_
      exact ⟨_, by first | rfl | (simp [xI, xH] <;> rfl) | (simp [*, xI, xH] <;> rfl), by (with_reducible repeat (first | apply Kd.zO | apply Kd.zM | apply Kd.zS)); exact Kd.yF (Kd.yH (p := ⟨gb399, 1, none⟩) (Kd.yH (p := ⟨gb399, 0, none⟩) (Kd.yR HO_406001.out BK399.out (by decide)) (fun _ hk => hk.2) (.int .i64 x406000_1)) (fun _ hk => hk.2) (.slice Ao108 x406001_1.length co108)) (fun _ hk => trivial), by repeat (first | (with_reducible first | exact HB.out | apply zH | apply zI | apply zJ | refine zB ?_ GE399.out | refine zB ?_ GE405.out) | exact HB.out)⟩
     subst c12
     have H1 : (if 0 ≤ x7_1 then (if x7_1 < (l1.length : Int) then ((turnspitlaw09_Op.f a0 (rd l1 x7_1) 24).bind fun bt407 => ((turnspitref09_Delete.f x406000_1 x406001_1 a0 bt407.2.2).bind fun bt411 => (if bt407.1 = true then ((turnspitref09_Insert.f x406000_1 x406001_1 a0 bt407.2.1 bt407.2.2).bind fun bt417 => (if bt417.2.2 = 0 then (turnspitlaw09_Made.l0 kj9 a0 l1 (wrap64 (x7_1 + 1)) bt417.1 bt417.2.1) else (turnspitlaw09_Made.l0 kj9 a0 l1 (wrap64 (x7_1 + 1)) x406000_1 x406001_1))) else (if bt411.2.2 = 0 then (turnspitlaw09_Made.l0 kj9 a0 l1 (wrap64 (x7_1 + 1)) bt411.1 bt411.2.1) else (turnspitlaw09_Made.l0 kj9 a0 l1 (wrap64 (x7_1 + 1)) x406000_1 x406001_1))))) else (none)) else (none)) = some (r1, r2) := by first | (rw [if_pos rfl] at H; exact H) | (rw [if_pos trivial] at H; exact H)
     clear H; have H := H1; clear H1
     by_cases c13 : 0 ≤ x7_1
     rotate_left
     ·rw [if_neg c13] at H
      exact absurd H (by simp)
     rw [if_pos c13] at H
     have c13b0 : decide (0 ≤ x7_1) = true := decide_eq_true c13
     clear c13
     by_cases c14 : x7_1 < (l1.length : Int)
     rotate_left
     ·rw [if_neg c14] at H
      exact absurd H (by simp)
     rw [if_pos c14] at H
     have c14b0 : decide (x7_1 < (l1.length : Int)) = true := decide_eq_true c14
     clear c14
     replace H := Option.bind_eq_some_iff.mp H
     obtain ⟨⟨t407, t408, t409⟩, A150, H⟩ := H
     replace H : ((turnspitref09_Delete.f x406000_1 x406001_1 a0 t409).bind fun bt411 => (if t407 = true then ((turnspitref09_Insert.f x406000_1 x406001_1 a0 t408 t409).bind fun bt417 => (if bt417.2.2 = 0 then (turnspitlaw09_Made.l0 kj9 a0 l1 (wrap64 (x7_1 + 1)) bt417.1 bt417.2.1) else (turnspitlaw09_Made.l0 kj9 a0 l1 (wrap64 (x7_1 + 1)) x406000_1 x406001_1))) else (if bt411.2.2 = 0 then (turnspitlaw09_Made.l0 kj9 a0 l1 (wrap64 (x7_1 + 1)) bt411.1 bt411.2.1) else (turnspitlaw09_Made.l0 kj9 a0 l1 (wrap64 (x7_1 + 1)) x406000_1 x406001_1)))) = some (r1, r2) := H
     have A15 := zA.mk A150; clear A150
     replace H := Option.bind_eq_some_iff.mp H
     obtain ⟨⟨t411, t412, t415⟩, A160, H⟩ := H
     replace H : (if t407 = true then ((turnspitref09_Insert.f x406000_1 x406001_1 a0 t408 t409).bind fun bt417 => (if bt417.2.2 = 0 then (turnspitlaw09_Made.l0 kj9 a0 l1 (wrap64 (x7_1 + 1)) bt417.1 bt417.2.1) else (turnspitlaw09_Made.l0 kj9 a0 l1 (wrap64 (x7_1 + 1)) x406000_1 x406001_1))) else (if t415 = 0 then (turnspitlaw09_Made.l0 kj9 a0 l1 (wrap64 (x7_1 + 1)) t411 t412) else (turnspitlaw09_Made.l0 kj9 a0 l1 (wrap64 (x7_1 + 1)) x406000_1 x406001_1))) = some (r1, r2) := H
     have A16 := zA.mk A160; clear A160; have HH := zA.mk H; clear H
     have p406 : 0 ≤ (x7_1 : Int) := of_decide_eq_true (by first | (with_reducible assumption) | assumption)
     have q406 : x7_1 < (l1.length : Int) := of_decide_eq_true (by first | (with_reducible assumption) | assumption)
     obtain ⟨ad406, e406, hx406_0⟩ := Kd.at_int HR1.out x7_1 p406 q406
     cases e406
     replace hx406_0 := (HB.out.cell (World.block_lt_of_cell? w _ hx406_0)).trans hx406_0
     replace p406 := eq_true p406
     replace q406 := eq_true q406
     go_upto_if 45 with (first | ((with_reducible refine yY (f := 28) rfl ?_); refine qX (some 34) rfl rfl Tryd.func28 (by kernel_rfl) rfl #[.int .u64 a0, .int .u16 (rd l1 x7_1), .int .i64 24] rfl (by (try simp only [List.map_toArray, List.map_cons, List.map_nil]); first | done | rfl | (simp only [List.length_drop, List.length_take]; rfl)) ?_; (with_reducible refine (turnspitlaw09_Op.calls a0 (rd l1 x7_1) 24 t407 t408 t409 _ (by first | exact hT | ((repeat (first | exact hT | apply Tm.Emp.drewN | apply Tm.Emp.drew)); done) | exact Tm.Emp.below hT (by repeat (first | (with_reducible first | exact HB.out | apply zH | apply zI | apply zJ | refine zB ?_ (zA.out (by assumption))) | exact HB.out))) A15.out).mono ?_); rintro e w20 ⟨rfl, hb⟩; refine ⟨_, rfl, ?_⟩; have n0_ := zA.mk (Kd.yG (by (with_reducible repeat (first | apply Kd.zO | apply Kd.zM | apply Kd.zS)); exact HO_406001.out) hb); have n1_ := zA.mk (zK (g := gb399) (o := .cells #[.int .i64 0, .slice none 0 0] 24 (0, 0)) (by (with_reducible repeat (first | apply zC | apply zG | apply zD)); exact BK399.out) hb); have n2_ := zA.mk (zK (g := gb405) (o := .cells #[.int .i64 x406000_1, u406001] 24 (0, 0)) (by (with_reducible repeat (first | apply zC | apply zG | apply zD)); exact BK405.out) hb); have n3_ := zA.mk (zT (by repeat (first | (with_reducible first | exact HB.out | apply zH | apply zI | apply zJ | refine zB ?_ GE399.out | refine zB ?_ GE405.out) | exact HB.out)) hb); clear HO_406001 BK399 BK405 HB; have HO_406001 := n0_; have BK399 := n1_; have BK405 := n2_; have HB := n3_; clear n0_ n1_ n2_ n3_; (try clear hb); (try clear hb2); (try clear hk); (try clear hi)) | ((with_reducible refine xJ (N := 9) rfl ?_); refine xC ?hg (N := 9) ?hd (cs := #[.int .u64 0, .int .i64 0]) (t := 27) ?hr ?_; (case hd => rfl); (case hg => rfl); (case hr => first | (go_simp; done) | (go_simp; rfl)); intro gb410 hg w21 hbox hb; have n0_ := zA.mk (Kd.yG (by (with_reducible repeat (first | apply Kd.zO | apply Kd.zM | apply Kd.zS)); exact HO_406001.out) hb); have n1_ := zA.mk (zK (g := gb399) (o := .cells #[.int .i64 0, .slice none 0 0] 24 (0, 0)) (by (with_reducible repeat (first | apply zC | apply zG | apply zD)); exact BK399.out) hb); have n2_ := zA.mk (zK (g := gb405) (o := .cells #[.int .i64 x406000_1, u406001] 24 (0, 0)) (by (with_reducible repeat (first | apply zC | apply zG | apply zD)); exact BK405.out) hb); have n3_ := zA.mk (zT (by repeat (first | (with_reducible first | exact HB.out | apply zH | apply zI | apply zJ | refine zB ?_ GE399.out | refine zB ?_ GE405.out) | exact HB.out)) hb); have n4_ := zA.mk (hbox); have n5_ := zA.mk ((by rw [hg]; exact (zW (by repeat (first | (with_reducible first | exact HB.out | apply zH | apply zI | apply zJ | refine zB ?_ GE399.out | refine zB ?_ GE405.out) | exact HB.out))) : w.heap.size ≤ gb410)); have n6_ := zA.mk ((by rw [hg]; exact (zW (by repeat (first | (with_reducible first | exact HB.out | apply zH | apply zI | apply zJ | refine zB ?_ GE399.out | refine zB ?_ GE405.out) | exact HB.out))) : w.heap.size ≤ gb410)); have n7_ := zA.mk ((by rw [hg]; exact Nat.ne_of_lt (yA (g := gb399) (o := .cells #[.int .i64 0, .slice none 0 0] 24 (0, 0)) (by (with_reducible repeat (first | apply zC | apply zG | apply zD)); exact BK399.out)) : gb399 ≠ gb410)); have n8_ := zA.mk ((by rw [hg]; exact Nat.ne_of_gt (yA (g := gb399) (o := .cells #[.int .i64 0, .slice none 0 0] 24 (0, 0)) (by (with_reducible repeat (first | apply zC | apply zG | apply zD)); exact BK399.out)) : gb410 ≠ gb399)); have n9_ := zA.mk ((by rw [hg]; exact Nat.ne_of_lt (yA (g := gb405) (o := .cells #[.int .i64 x406000_1, u406001] 24 (0, 0)) (by (with_reducible repeat (first | apply zC | apply zG | apply zD)); exact BK405.out)) : gb405 ≠ gb410)); have n10_ := zA.mk ((by rw [hg]; exact Nat.ne_of_gt (yA (g := gb405) (o := .cells #[.int .i64 x406000_1, u406001] 24 (0, 0)) (by (with_reducible repeat (first | apply zC | apply zG | apply zD)); exact BK405.out)) : gb410 ≠ gb405)); clear HO_406001 BK399 BK405 HB; have HO_406001 := n0_; have BK399 := n1_; have BK405 := n2_; have HB := n3_; have BK410 := n4_; have GW410 := n5_; have GE410 := n6_; have NB399_410 := n7_; have NB410_399 := n8_; have NB405_410 := n9_; have NB410_405 := n10_; clear n0_ n1_ n2_ n3_ n4_ n5_ n6_ n7_ n8_ n9_ n10_; clear hb hbox hg; have hnb22 := NB410_399.out; have hnc22 := NB399_410.out; have hnb23 := NB410_405.out; have hnc23 := NB405_410.out; have hcz24_0 : w21.cell? ⟨gb410, 0, none⟩ = some (.int .u64 0) := (zF BK410.out 0).trans rfl; have hcz24_1 : w21.cell? ⟨gb410, 1, none⟩ = some (.int .i64 0) := (zF BK410.out 1).trans rfl; have hfz24_0 := zL BK410.out 0; have hfz24_1 := zL BK410.out 1; have hnb25 := NB405_399.out; have hnc25 := NB399_405.out; have hcz26_0 : w21.cell? ⟨gb405, 0, none⟩ = some (.int .i64 x406000_1) := (zF BK405.out 0).trans rfl; have hcz26_1 : w21.cell? ⟨gb405, 1, none⟩ = some (u406001) := (zF BK405.out 1).trans rfl; have hfz26_0 := zL BK405.out 0; have hfz26_1 := zL BK405.out 1; obtain ⟨Ao27, co27, eo27⟩ := Kd.xV HO_406001.out; subst eo27) | ((with_reducible refine yY (f := 14) rfl ?_); refine qX (some 42) rfl rfl Tryd.func14 (by kernel_rfl) rfl #[.agg #[.int .i64 x406000_1, .slice Ao27 x406001_1.length co27], .int .u64 a0, .int .i64 t409] rfl (by (try simp only [List.map_toArray, List.map_cons, List.map_nil]); first | done | rfl | (simp only [List.length_drop, List.length_take]; rfl)) ?_; (with_reducible refine (turnspitref09_Delete.calls x406000_1 _ _ x406001_1 a0 t409 t411 t412 t415 _ ?side1 ?side2 (by first | exact hT | ((repeat (first | exact hT | apply Tm.Emp.drewN | apply Tm.Emp.drew)); done) | exact Tm.Emp.below hT (by repeat (first | (with_reducible first | exact HB.out | apply zH | apply zI | apply zJ | refine zB ?_ (zA.out (by assumption))) | exact HB.out))) A16.out).mono ?_); (case side1 => refine (Kd.yN (e := 57) (base := w.heap.size) (ok := fun k_ => True) (n := x406001_1.length) (c := co27) ?_).2.2; exact (by (with_reducible repeat (first | apply Kd.zO | apply Kd.zM | apply Kd.zS)); exact (Kd.yF (Kd.yH (p := ⟨gb410, 1, none⟩) (Kd.yH (p := ⟨gb410, 0, none⟩) (Kd.yR HO_406001.out BK410.out (by decide)) (fun _ hk => hk.2) (.int .u64 t408)) (fun _ hk => hk.2) (.int .i64 t409)) (fun _ h_ => h_.1)))); (case side2 => exact (Kd.yN HO_406001.out).2.1); rintro e w28 ⟨v413, rfl, ho0, hb⟩; refine ⟨_, rfl, ?_⟩; have n0_ := zA.mk (Kd.yD (by (with_reducible repeat (first | apply Kd.zO | apply Kd.zM | apply Kd.zS)); exact (Kd.yF (Kd.yH (p := ⟨gb410, 1, none⟩) (Kd.yH (p := ⟨gb410, 0, none⟩) (Kd.yR HO_406001.out BK410.out (by decide)) (fun _ hk => hk.2) (.int .u64 t408)) (fun _ hk => hk.2) (.int .i64 t409)) (fun _ h_ => h_.1))) (Kd.yQ ho0) hb); have n1_ := zA.mk (Kd.qB (Kd.yP ho0 (Kd.R_lt (by (with_reducible repeat (first | apply Kd.zO | apply Kd.zM | apply Kd.zS)); exact (Kd.yF (Kd.yH (p := ⟨gb410, 1, none⟩) (Kd.yH (p := ⟨gb410, 0, none⟩) (Kd.yR HO_406001.out BK410.out (by decide)) (fun _ hk => hk.2) (.int .u64 t408)) (fun _ hk => hk.2) (.int .i64 t409)) (fun _ h_ => h_.1))))) (zW (by repeat (first | (with_reducible first | exact HB.out | apply zH | apply zI | apply zJ | refine zB ?_ GE399.out | refine zB ?_ GE405.out | refine zB ?_ GE410.out) | exact HB.out)))); have n2_ := zA.mk (zK (g := gb399) (o := .cells #[.int .i64 0, .slice none 0 0] 24 (0, 0)) (by (with_reducible repeat (first | apply zC | apply zG | apply zD)); refine zX ?_ NB399_410.out _; (with_reducible repeat (first | apply zC | apply zG | apply zD)); refine zX ?_ NB399_410.out _; (with_reducible repeat (first | apply zC | apply zG | apply zD)); exact BK399.out) hb); have n3_ := zA.mk (zK (g := gb405) (o := .cells #[.int .i64 x406000_1, .slice Ao27 x406001_1.length co27] 24 (0, 0)) (by (with_reducible repeat (first | apply zC | apply zG | apply zD)); refine zX ?_ NB405_410.out _; (with_reducible repeat (first | apply zC | apply zG | apply zD)); refine zX ?_ NB405_410.out _; (with_reducible repeat (first | apply zC | apply zG | apply zD)); exact BK405.out) hb); have n4_ := zA.mk (zK (g := gb410) (o := .cells #[.int .u64 t408, .int .i64 t409] 27 (0, 0)) (by (with_reducible repeat (first | apply zC | apply zG | apply zD)); refine yK (cs := #[.int .u64 t408, .int .i64 0]) ?_ 1 _ rfl; (with_reducible repeat (first | apply zC | apply zG | apply zD)); refine yK (cs := #[.int .u64 0, .int .i64 0]) ?_ 0 _ rfl; (with_reducible repeat (first | apply zC | apply zG | apply zD)); exact BK410.out) hb); have n5_ := zA.mk (zT (by repeat (first | (with_reducible first | exact HB.out | apply zH | apply zI | apply zJ | refine zB ?_ GE399.out | refine zB ?_ GE405.out | refine zB ?_ GE410.out) | exact HB.out)) hb); clear HO_406001 BK399 BK405 BK410 HB; have HO_406001 := n0_; have HO414 := n1_; have BK399 := n2_; have BK405 := n3_; have BK410 := n4_; have HB := n5_; clear n0_ n1_ n2_ n3_ n4_ n5_; (try clear hb); (try clear hb2); (try clear hk); (try clear hi); (try clear ho0)) | ((with_reducible refine xJ (N := 10) rfl ?_); refine xC ?hg (N := 10) ?hd (cs := #[.int .i64 0, .slice none 0 0]) (t := 24) ?hr ?_; (case hd => rfl); (case hg => rfl); (case hr => first | (go_simp; done) | (go_simp; rfl)); intro gb416 hg w29 hbox hb; have n0_ := zA.mk (Kd.yG (by (with_reducible repeat (first | apply Kd.zO | apply Kd.zM | apply Kd.zS)); exact HO_406001.out) hb); have n1_ := zA.mk (Kd.yG (by (with_reducible repeat (first | apply Kd.zO | apply Kd.zM | apply Kd.zS)); exact HO414.out) hb); have n2_ := zA.mk (zK (g := gb399) (o := .cells #[.int .i64 0, .slice none 0 0] 24 (0, 0)) (by (with_reducible repeat (first | apply zC | apply zG | apply zD)); exact BK399.out) hb); have n3_ := zA.mk (zK (g := gb405) (o := .cells #[.int .i64 x406000_1, .slice Ao27 x406001_1.length co27] 24 (0, 0)) (by (with_reducible repeat (first | apply zC | apply zG | apply zD)); exact BK405.out) hb); have n4_ := zA.mk (zK (g := gb410) (o := .cells #[.int .u64 t408, .int .i64 t409] 27 (0, 0)) (by (with_reducible repeat (first | apply zC | apply zG | apply zD)); exact BK410.out) hb); have n5_ := zA.mk (zT (by repeat (first | (with_reducible first | exact HB.out | apply zH | apply zI | apply zJ | refine zB ?_ GE399.out | refine zB ?_ GE405.out | refine zB ?_ GE410.out) | exact HB.out)) hb); have n6_ := zA.mk (hbox); have n7_ := zA.mk ((by rw [hg]; exact (zW (by repeat (first | (with_reducible first | exact HB.out | apply zH | apply zI | apply zJ | refine zB ?_ GE399.out | refine zB ?_ GE405.out | refine zB ?_ GE410.out) | exact HB.out))) : w.heap.size ≤ gb416)); have n8_ := zA.mk ((by rw [hg]; exact (zW (by repeat (first | (with_reducible first | exact HB.out | apply zH | apply zI | apply zJ | refine zB ?_ GE399.out | refine zB ?_ GE405.out | refine zB ?_ GE410.out) | exact HB.out))) : w.heap.size ≤ gb416)); have n9_ := zA.mk ((by rw [hg]; exact Nat.ne_of_lt (yA (g := gb399) (o := .cells #[.int .i64 0, .slice none 0 0] 24 (0, 0)) (by (with_reducible repeat (first | apply zC | apply zG | apply zD)); exact BK399.out)) : gb399 ≠ gb416)); have n10_ := zA.mk ((by rw [hg]; exact Nat.ne_of_gt (yA (g := gb399) (o := .cells #[.int .i64 0, .slice none 0 0] 24 (0, 0)) (by (with_reducible repeat (first | apply zC | apply zG | apply zD)); exact BK399.out)) : gb416 ≠ gb399)); have n11_ := zA.mk ((by rw [hg]; exact Nat.ne_of_lt (yA (g := gb405) (o := .cells #[.int .i64 x406000_1, .slice Ao27 x406001_1.length co27] 24 (0, 0)) (by (with_reducible repeat (first | apply zC | apply zG | apply zD)); exact BK405.out)) : gb405 ≠ gb416)); have n12_ := zA.mk ((by rw [hg]; exact Nat.ne_of_gt (yA (g := gb405) (o := .cells #[.int .i64 x406000_1, .slice Ao27 x406001_1.length co27] 24 (0, 0)) (by (with_reducible repeat (first | apply zC | apply zG | apply zD)); exact BK405.out)) : gb416 ≠ gb405)); have n13_ := zA.mk ((by rw [hg]; exact Nat.ne_of_lt (yA (g := gb410) (o := .cells #[.int .u64 t408, .int .i64 t409] 27 (0, 0)) (by (with_reducible repeat (first | apply zC | apply zG | apply zD)); exact BK410.out)) : gb410 ≠ gb416)); have n14_ := zA.mk ((by rw [hg]; exact Nat.ne_of_gt (yA (g := gb410) (o := .cells #[.int .u64 t408, .int .i64 t409] 27 (0, 0)) (by (with_reducible repeat (first | apply zC | apply zG | apply zD)); exact BK410.out)) : gb416 ≠ gb410)); clear HO_406001 HO414 BK399 BK405 BK410 HB; have HO_406001 := n0_; have HO414 := n1_; have BK399 := n2_; have BK405 := n3_; have BK410 := n4_; have HB := n5_; have BK416 := n6_; have GW416 := n7_; have GE416 := n8_; have NB399_416 := n9_; have NB416_399 := n10_; have NB405_416 := n11_; have NB416_405 := n12_; have NB410_416 := n13_; have NB416_410 := n14_; clear n0_ n1_ n2_ n3_ n4_ n5_ n6_ n7_ n8_ n9_ n10_ n11_ n12_ n13_ n14_; clear hb hbox hg; have hnb30 := NB416_399.out; have hnc30 := NB399_416.out; have hnb31 := NB416_405.out; have hnc31 := NB405_416.out; have hnb32 := NB416_410.out; have hnc32 := NB410_416.out; have hcz33_0 : w29.cell? ⟨gb416, 0, none⟩ = some (.int .i64 0) := (zF BK416.out 0).trans rfl; have hcz33_1 : w29.cell? ⟨gb416, 1, none⟩ = some (.slice none 0 0) := (zF BK416.out 1).trans rfl; have hfz33_0 := zL BK416.out 0; have hfz33_1 := zL BK416.out 1; obtain ⟨Ao34, co34, eo34⟩ := Kd.xV HO414.out; subst eo34; have hcz35_0 : w29.cell? ⟨gb405, 0, none⟩ = some (.int .i64 x406000_1) := (zF BK405.out 0).trans rfl; have hcz35_1 : w29.cell? ⟨gb405, 1, none⟩ = some (.slice Ao27 x406001_1.length co27) := (zF BK405.out 1).trans rfl; have hfz35_0 := zL BK405.out 0; have hfz35_1 := zL BK405.out 1; have hcz36_0 : w29.cell? ⟨gb410, 0, none⟩ = some (.int .u64 t408) := (zF BK410.out 0).trans rfl; have hcz36_1 : w29.cell? ⟨gb410, 1, none⟩ = some (.int .i64 t409) := (zF BK410.out 1).trans rfl; have hfz36_0 := zL BK410.out 0; have hfz36_1 := zL BK410.out 1))
     have H := HH.out; clear HH
     by_cases c17 : t407 = true
     rotate_left
     ·replace c17 := Bool.eq_false_iff.mpr c17
      subst c17
      have H1 : (if t415 = 0 then (turnspitlaw09_Made.l0 kj9 a0 l1 (wrap64 (x7_1 + 1)) t411 t412) else (turnspitlaw09_Made.l0 kj9 a0 l1 (wrap64 (x7_1 + 1)) x406000_1 x406001_1)) = some (r1, r2) := by first | (rw [if_neg (show ¬ (false = true) by decide)] at H; exact H) | (rw [if_neg (fun h => h)] at H; exact H)
      clear H; have H := H1; clear H1
      by_cases c73 : t415 = 0
      rotate_left
      ·rw [if_neg c73] at H
       have c73b0 : (t415 == 0) = false := beq_eq_false_iff_ne.mpr c73
       have c73b1 : (t415 != 0) = true := bne_iff_ne.mpr c73
       have H' := zA.mk H
       clear H
       go_wp2
       go_roundg kj9
       case measure => have := HK1.out; have := HJ9.out; omega
       case rel => exact ⟨(wrap64 (x7_1 + 1)), (x406000_1), (x406001_1), (.slice Ao27 x406001_1.length co27), (by first | rfl | (simp; done) | (simp [*]; done)), H', ⟨by have := HK1.out; have := HJ9.out; omega⟩, ⟨by (with_reducible repeat (first | apply Kd.zO | apply Kd.zM | apply Kd.zS)); exact Kd.yF (Kd.yH (p := ⟨gb416, 1, none⟩) (Kd.yH (p := ⟨gb416, 0, none⟩) (Kd.yR HO_406001.out BK416.out (by decide)) (fun _ hk => hk.2) (.int .i64 t411)) (fun _ hk => hk.2) (.slice Ao34 t412.length co34)) (fun _ hk => trivial)⟩, ⟨by (with_reducible repeat (first | apply zC | apply zG | apply zD)); refine zX ?_ NB399_416.out _; (with_reducible repeat (first | apply zC | apply zG | apply zD)); refine zX ?_ NB399_416.out _; (with_reducible repeat (first | apply zC | apply zG | apply zD)); exact BK399.out⟩, ⟨by (with_reducible repeat (first | apply zC | apply zG | apply zD)); refine zX ?_ NB405_416.out _; (with_reducible repeat (first | apply zC | apply zG | apply zD)); refine zX ?_ NB405_416.out _; (with_reducible repeat (first | apply zC | apply zG | apply zD)); exact BK405.out⟩, ⟨by repeat (first | (with_reducible first | exact HB.out | apply zH | apply zI | apply zJ | refine zB ?_ GE399.out | refine zB ?_ GE405.out | refine zB ?_ GE410.out | refine zB ?_ GE416.out) | exact HB.out)⟩⟩
      rw [if_pos c73] at H
      have c73b0 : (t415 == 0) = true := beq_iff_eq.mpr c73
      have c73b1 : (t415 != 0) = false := bne_eq_false_iff_eq.mpr c73
      clear c73
      have H' := zA.mk H
      clear H
      go_wp2
      go_roundg kj9
      case measure => have := HK1.out; have := HJ9.out; omega
      case rel => exact ⟨(wrap64 (x7_1 + 1)), (t411), (t412), (.slice Ao34 t412.length co34), (by first | rfl | (simp; done) | (simp [*]; done)), H', ⟨by have := HK1.out; have := HJ9.out; omega⟩, ⟨by (with_reducible repeat (first | apply Kd.zO | apply Kd.zM | apply Kd.zS)); exact Kd.yF (Kd.yH (p := ⟨gb405, 1, none⟩) (Kd.yH (p := ⟨gb405, 0, none⟩) (Kd.yH (p := ⟨gb416, 1, none⟩) (Kd.yH (p := ⟨gb416, 0, none⟩) (Kd.yR (Kd.yR HO414.out BK416.out (by decide)) BK405.out (by decide)) (fun _ hk => hk.1.2) (.int .i64 t411)) (fun _ hk => hk.1.2) (.slice Ao34 t412.length co34)) (fun _ hk => hk.2) (.int .i64 t411)) (fun _ hk => hk.2) (.slice Ao34 t412.length co34)) (fun _ hk => trivial)⟩, ⟨by (with_reducible repeat (first | apply zC | apply zG | apply zD)); refine zX ?_ NB399_405.out _; (with_reducible repeat (first | apply zC | apply zG | apply zD)); refine zX ?_ NB399_405.out _; (with_reducible repeat (first | apply zC | apply zG | apply zD)); refine zX ?_ NB399_416.out _; (with_reducible repeat (first | apply zC | apply zG | apply zD)); refine zX ?_ NB399_416.out _; (with_reducible repeat (first | apply zC | apply zG | apply zD)); exact BK399.out⟩, ⟨by (with_reducible repeat (first | apply zC | apply zG | apply zD)); refine yK (cs := #[.int .i64 t411, .slice Ao27 x406001_1.length co27]) ?_ 1 _ rfl; (with_reducible repeat (first | apply zC | apply zG | apply zD)); refine yK (cs := #[.int .i64 x406000_1, .slice Ao27 x406001_1.length co27]) ?_ 0 _ rfl; (with_reducible repeat (first | apply zC | apply zG | apply zD)); refine zX ?_ NB405_416.out _; (with_reducible repeat (first | apply zC | apply zG | apply zD)); refine zX ?_ NB405_416.out _; (with_reducible repeat (first | apply zC | apply zG | apply zD)); exact BK405.out⟩, ⟨by repeat (first | (with_reducible first | exact HB.out | apply zH | apply zI | apply zJ | refine zB ?_ GE399.out | refine zB ?_ GE405.out | refine zB ?_ GE410.out | refine zB ?_ GE416.out) | exact HB.out)⟩⟩
     subst c17
     have H1 : ((turnspitref09_Insert.f x406000_1 x406001_1 a0 t408 t409).bind fun bt417 => (if bt417.2.2 = 0 then (turnspitlaw09_Made.l0 kj9 a0 l1 (wrap64 (x7_1 + 1)) bt417.1 bt417.2.1) else (turnspitlaw09_Made.l0 kj9 a0 l1 (wrap64 (x7_1 + 1)) x406000_1 x406001_1))) = some (r1, r2) := by first | (rw [if_pos rfl] at H; exact H) | (rw [if_pos trivial] at H; exact H)
     clear H; have H := H1; clear H1
     replace H := Option.bind_eq_some_iff.mp H
     obtain ⟨⟨t417, t418, t421⟩, A180, H⟩ := H
     replace H : (if t421 = 0 then (turnspitlaw09_Made.l0 kj9 a0 l1 (wrap64 (x7_1 + 1)) t417 t418) else (turnspitlaw09_Made.l0 kj9 a0 l1 (wrap64 (x7_1 + 1)) x406000_1 x406001_1)) = some (r1, r2) := H
     have A18 := zA.mk A180; clear A180; have HH := zA.mk H; clear H
     go_upto_region 11 with (first | ((with_reducible refine yY (f := 12) rfl ?_); refine qX (some 50) rfl rfl Tryd.func12 (by kernel_rfl) rfl #[.agg #[.int .i64 x406000_1, .slice Ao27 x406001_1.length co27], .int .u64 a0, .agg #[.int .u64 t408, .int .i64 t409]] rfl (by (try simp only [List.map_toArray, List.map_cons, List.map_nil]); first | done | rfl | (simp only [List.length_drop, List.length_take]; rfl)) ?_; (with_reducible refine (turnspitref09_Insert.calls x406000_1 _ _ x406001_1 a0 t408 t409 t417 t418 t421 _ ?side1 ?side2 (by first | exact hT | ((repeat (first | exact hT | apply Tm.Emp.drewN | apply Tm.Emp.drew)); done) | exact Tm.Emp.below hT (by repeat (first | (with_reducible first | exact HB.out | apply zH | apply zI | apply zJ | refine zB ?_ (zA.out (by assumption))) | exact HB.out))) A18.out).mono ?_); (case side1 => refine (Kd.yN (e := 57) (base := w.heap.size) (ok := fun k_ => (True ∧ some k_ ≠ (.slice Ao34 t412.length co34 : Value).ownBlock)) (n := x406001_1.length) (c := co27) ?_).2.2; exact (by (with_reducible repeat (first | apply Kd.zO | apply Kd.zM | apply Kd.zS)); exact (Kd.yF (Kd.yH (p := ⟨gb416, 1, none⟩) (Kd.yH (p := ⟨gb416, 0, none⟩) (Kd.yR HO_406001.out BK416.out (by decide)) (fun _ hk => hk.2) (.int .i64 t411)) (fun _ hk => hk.2) (.slice Ao34 t412.length co34)) (fun _ h_ => h_.1)))); (case side2 => exact (Kd.yN HO_406001.out).2.1); rintro e w37 ⟨v419, rfl, ho0, hb⟩; refine ⟨_, rfl, ?_⟩; have n0_ := zA.mk (Kd.yD (by (with_reducible repeat (first | apply Kd.zO | apply Kd.zM | apply Kd.zS)); exact (Kd.yF (Kd.yH (p := ⟨gb416, 1, none⟩) (Kd.yH (p := ⟨gb416, 0, none⟩) (Kd.yR HO_406001.out BK416.out (by decide)) (fun _ hk => hk.2) (.int .i64 t411)) (fun _ hk => hk.2) (.slice Ao34 t412.length co34)) (fun _ h_ => h_.1))) (Kd.yQ ho0) hb); have n1_ := zA.mk (Kd.yD (by (with_reducible repeat (first | apply Kd.zO | apply Kd.zM | apply Kd.zS)); exact (Kd.yF (Kd.yH (p := ⟨gb416, 1, none⟩) (Kd.yH (p := ⟨gb416, 0, none⟩) (Kd.yR HO414.out BK416.out (by decide)) (fun _ hk => hk.2) (.int .i64 t411)) (fun _ hk => hk.2) (.slice Ao34 t412.length co34)) (fun _ h_ => h_.1))) (Kd.yQ ho0) hb); have n2_ := zA.mk (Kd.qB (Kd.yP (Kd.yP ho0 (Kd.R_lt (by (with_reducible repeat (first | apply Kd.zO | apply Kd.zM | apply Kd.zS)); exact (Kd.yF (Kd.yH (p := ⟨gb416, 1, none⟩) (Kd.yH (p := ⟨gb416, 0, none⟩) (Kd.yR HO_406001.out BK416.out (by decide)) (fun _ hk => hk.2) (.int .i64 t411)) (fun _ hk => hk.2) (.slice Ao34 t412.length co34)) (fun _ h_ => h_.1))))) (Kd.R_lt (by (with_reducible repeat (first | apply Kd.zO | apply Kd.zM | apply Kd.zS)); exact (Kd.yF (Kd.yH (p := ⟨gb416, 1, none⟩) (Kd.yH (p := ⟨gb416, 0, none⟩) (Kd.yR HO414.out BK416.out (by decide)) (fun _ hk => hk.2) (.int .i64 t411)) (fun _ hk => hk.2) (.slice Ao34 t412.length co34)) (fun _ h_ => h_.1))))) (zW (by repeat (first | (with_reducible first | exact HB.out | apply zH | apply zI | apply zJ | refine zB ?_ GE399.out | refine zB ?_ GE405.out | refine zB ?_ GE410.out | refine zB ?_ GE416.out) | exact HB.out)))); have n3_ := zA.mk (zK (g := gb399) (o := .cells #[.int .i64 0, .slice none 0 0] 24 (0, 0)) (by (with_reducible repeat (first | apply zC | apply zG | apply zD)); refine zX ?_ NB399_416.out _; (with_reducible repeat (first | apply zC | apply zG | apply zD)); refine zX ?_ NB399_416.out _; (with_reducible repeat (first | apply zC | apply zG | apply zD)); exact BK399.out) hb); have n4_ := zA.mk (zK (g := gb405) (o := .cells #[.int .i64 x406000_1, .slice Ao27 x406001_1.length co27] 24 (0, 0)) (by (with_reducible repeat (first | apply zC | apply zG | apply zD)); refine zX ?_ NB405_416.out _; (with_reducible repeat (first | apply zC | apply zG | apply zD)); refine zX ?_ NB405_416.out _; (with_reducible repeat (first | apply zC | apply zG | apply zD)); exact BK405.out) hb); have n5_ := zA.mk (zK (g := gb410) (o := .cells #[.int .u64 t408, .int .i64 t409] 27 (0, 0)) (by (with_reducible repeat (first | apply zC | apply zG | apply zD)); refine zX ?_ NB410_416.out _; (with_reducible repeat (first | apply zC | apply zG | apply zD)); refine zX ?_ NB410_416.out _; (with_reducible repeat (first | apply zC | apply zG | apply zD)); exact BK410.out) hb); have n6_ := zA.mk (zK (g := gb416) (o := .cells #[.int .i64 t411, .slice Ao34 t412.length co34] 24 (0, 0)) (by (with_reducible repeat (first | apply zC | apply zG | apply zD)); refine yK (cs := #[.int .i64 t411, .slice none 0 0]) ?_ 1 _ rfl; (with_reducible repeat (first | apply zC | apply zG | apply zD)); refine yK (cs := #[.int .i64 0, .slice none 0 0]) ?_ 0 _ rfl; (with_reducible repeat (first | apply zC | apply zG | apply zD)); exact BK416.out) hb); have n7_ := zA.mk (zT (by repeat (first | (with_reducible first | exact HB.out | apply zH | apply zI | apply zJ | refine zB ?_ GE399.out | refine zB ?_ GE405.out | refine zB ?_ GE410.out | refine zB ?_ GE416.out) | exact HB.out)) hb); clear HO_406001 HO414 BK399 BK405 BK410 BK416 HB; have HO_406001 := n0_; have HO414 := n1_; have HO420 := n2_; have BK399 := n3_; have BK405 := n4_; have BK410 := n5_; have BK416 := n6_; have HB := n7_; clear n0_ n1_ n2_ n3_ n4_ n5_ n6_ n7_; (try clear hb); (try clear hb2); (try clear hk); (try clear hi); (try clear ho0)) | ((with_reducible refine xJ (N := 12) rfl ?_); refine xC ?hg (N := 12) ?hd (cs := #[.int .i64 0, .slice none 0 0]) (t := 24) ?hr ?_; (case hd => rfl); (case hg => rfl); (case hr => first | (go_simp; done) | (go_simp; rfl)); intro gb422 hg w38 hbox hb; have n0_ := zA.mk (Kd.yG (by (with_reducible repeat (first | apply Kd.zO | apply Kd.zM | apply Kd.zS)); exact HO_406001.out) hb); have n1_ := zA.mk (Kd.yG (by (with_reducible repeat (first | apply Kd.zO | apply Kd.zM | apply Kd.zS)); exact HO414.out) hb); have n2_ := zA.mk (Kd.yG (by (with_reducible repeat (first | apply Kd.zO | apply Kd.zM | apply Kd.zS)); exact HO420.out) hb); have n3_ := zA.mk (zK (g := gb399) (o := .cells #[.int .i64 0, .slice none 0 0] 24 (0, 0)) (by (with_reducible repeat (first | apply zC | apply zG | apply zD)); exact BK399.out) hb); have n4_ := zA.mk (zK (g := gb405) (o := .cells #[.int .i64 x406000_1, .slice Ao27 x406001_1.length co27] 24 (0, 0)) (by (with_reducible repeat (first | apply zC | apply zG | apply zD)); exact BK405.out) hb); have n5_ := zA.mk (zK (g := gb410) (o := .cells #[.int .u64 t408, .int .i64 t409] 27 (0, 0)) (by (with_reducible repeat (first | apply zC | apply zG | apply zD)); exact BK410.out) hb); have n6_ := zA.mk (zK (g := gb416) (o := .cells #[.int .i64 t411, .slice Ao34 t412.length co34] 24 (0, 0)) (by (with_reducible repeat (first | apply zC | apply zG | apply zD)); exact BK416.out) hb); have n7_ := zA.mk (zT (by repeat (first | (with_reducible first | exact HB.out | apply zH | apply zI | apply zJ | refine zB ?_ GE399.out | refine zB ?_ GE405.out | refine zB ?_ GE410.out | refine zB ?_ GE416.out) | exact HB.out)) hb); have n8_ := zA.mk (hbox); have n9_ := zA.mk ((by rw [hg]; exact (zW (by repeat (first | (with_reducible first | exact HB.out | apply zH | apply zI | apply zJ | refine zB ?_ GE399.out | refine zB ?_ GE405.out | refine zB ?_ GE410.out | refine zB ?_ GE416.out) | exact HB.out))) : w.heap.size ≤ gb422)); have n10_ := zA.mk ((by rw [hg]; exact (zW (by repeat (first | (with_reducible first | exact HB.out | apply zH | apply zI | apply zJ | refine zB ?_ GE399.out | refine zB ?_ GE405.out | refine zB ?_ GE410.out | refine zB ?_ GE416.out) | exact HB.out))) : w.heap.size ≤ gb422)); have n11_ := zA.mk ((by rw [hg]; exact Nat.ne_of_lt (yA (g := gb399) (o := .cells #[.int .i64 0, .slice none 0 0] 24 (0, 0)) (by (with_reducible repeat (first | apply zC | apply zG | apply zD)); exact BK399.out)) : gb399 ≠ gb422)); have n12_ := zA.mk ((by rw [hg]; exact Nat.ne_of_gt (yA (g := gb399) (o := .cells #[.int .i64 0, .slice none 0 0] 24 (0, 0)) (by (with_reducible repeat (first | apply zC | apply zG | apply zD)); exact BK399.out)) : gb422 ≠ gb399)); have n13_ := zA.mk ((by rw [hg]; exact Nat.ne_of_lt (yA (g := gb405) (o := .cells #[.int .i64 x406000_1, .slice Ao27 x406001_1.length co27] 24 (0, 0)) (by (with_reducible repeat (first | apply zC | apply zG | apply zD)); exact BK405.out)) : gb405 ≠ gb422)); have n14_ := zA.mk ((by rw [hg]; exact Nat.ne_of_gt (yA (g := gb405) (o := .cells #[.int .i64 x406000_1, .slice Ao27 x406001_1.length co27] 24 (0, 0)) (by (with_reducible repeat (first | apply zC | apply zG | apply zD)); exact BK405.out)) : gb422 ≠ gb405)); have n15_ := zA.mk ((by rw [hg]; exact Nat.ne_of_lt (yA (g := gb410) (o := .cells #[.int .u64 t408, .int .i64 t409] 27 (0, 0)) (by (with_reducible repeat (first | apply zC | apply zG | apply zD)); exact BK410.out)) : gb410 ≠ gb422)); have n16_ := zA.mk ((by rw [hg]; exact Nat.ne_of_gt (yA (g := gb410) (o := .cells #[.int .u64 t408, .int .i64 t409] 27 (0, 0)) (by (with_reducible repeat (first | apply zC | apply zG | apply zD)); exact BK410.out)) : gb422 ≠ gb410)); have n17_ := zA.mk ((by rw [hg]; exact Nat.ne_of_lt (yA (g := gb416) (o := .cells #[.int .i64 t411, .slice Ao34 t412.length co34] 24 (0, 0)) (by (with_reducible repeat (first | apply zC | apply zG | apply zD)); exact BK416.out)) : gb416 ≠ gb422)); have n18_ := zA.mk ((by rw [hg]; exact Nat.ne_of_gt (yA (g := gb416) (o := .cells #[.int .i64 t411, .slice Ao34 t412.length co34] 24 (0, 0)) (by (with_reducible repeat (first | apply zC | apply zG | apply zD)); exact BK416.out)) : gb422 ≠ gb416)); clear HO_406001 HO414 HO420 BK399 BK405 BK410 BK416 HB; have HO_406001 := n0_; have HO414 := n1_; have HO420 := n2_; have BK399 := n3_; have BK405 := n4_; have BK410 := n5_; have BK416 := n6_; have HB := n7_; have BK422 := n8_; have GW422 := n9_; have GE422 := n10_; have NB399_422 := n11_; have NB422_399 := n12_; have NB405_422 := n13_; have NB422_405 := n14_; have NB410_422 := n15_; have NB422_410 := n16_; have NB416_422 := n17_; have NB422_416 := n18_; clear n0_ n1_ n2_ n3_ n4_ n5_ n6_ n7_ n8_ n9_ n10_ n11_ n12_ n13_ n14_ n15_ n16_ n17_ n18_; clear hb hbox hg; have hnb39 := NB422_399.out; have hnc39 := NB399_422.out; have hnb40 := NB422_405.out; have hnc40 := NB405_422.out; have hnb41 := NB422_410.out; have hnc41 := NB410_422.out; have hnb42 := NB422_416.out; have hnc42 := NB416_422.out; have hcz43_0 : w38.cell? ⟨gb422, 0, none⟩ = some (.int .i64 0) := (zF BK422.out 0).trans rfl; have hcz43_1 : w38.cell? ⟨gb422, 1, none⟩ = some (.slice none 0 0) := (zF BK422.out 1).trans rfl; have hfz43_0 := zL BK422.out 0; have hfz43_1 := zL BK422.out 1; obtain ⟨Ao44, co44, eo44⟩ := Kd.xV HO420.out; subst eo44; have hcz45_0 : w38.cell? ⟨gb416, 0, none⟩ = some (.int .i64 t411) := (zF BK416.out 0).trans rfl; have hcz45_1 : w38.cell? ⟨gb416, 1, none⟩ = some (.slice Ao34 t412.length co34) := (zF BK416.out 1).trans rfl; have hfz45_0 := zL BK416.out 0; have hfz45_1 := zL BK416.out 1; have hcz46_0 : w38.cell? ⟨gb405, 0, none⟩ = some (.int .i64 x406000_1) := (zF BK405.out 0).trans rfl; have hcz46_1 : w38.cell? ⟨gb405, 1, none⟩ = some (.slice Ao27 x406001_1.length co27) := (zF BK405.out 1).trans rfl; have hfz46_0 := zL BK405.out 0; have hfz46_1 := zL BK405.out 1))
     have H := HH.out; clear HH
     by_cases c19 : t421 = 0
     rotate_left
     ·rw [if_neg c19] at H
      have c19b0 : (t421 == 0) = false := beq_eq_false_iff_ne.mpr c19
      have c19b1 : (t421 != 0) = true := bne_iff_ne.mpr c19
      have H' := zA.mk H
      clear H
      go_wp2
      go_roundg kj9
      case measure => have := HK1.out; have := HJ9.out; omega
      case rel => exact ⟨(wrap64 (x7_1 + 1)), (x406000_1), (x406001_1), (.slice Ao27 x406001_1.length co27), (by first | rfl | (simp; done) | (simp [*]; done)), H', ⟨by have := HK1.out; have := HJ9.out; omega⟩, ⟨by (with_reducible repeat (first | apply Kd.zO | apply Kd.zM | apply Kd.zS)); exact Kd.yF (Kd.yH (p := ⟨gb416, 1, none⟩) (Kd.yH (p := ⟨gb416, 0, none⟩) (Kd.yH (p := ⟨gb422, 1, none⟩) (Kd.yH (p := ⟨gb422, 0, none⟩) (Kd.yR (Kd.yR HO_406001.out BK422.out (by decide)) BK416.out (by decide)) (fun _ hk => hk.1.2) (.int .i64 t417)) (fun _ hk => hk.1.2) (.slice Ao44 t418.length co44)) (fun _ hk => hk.2) (.int .i64 t417)) (fun _ hk => hk.2) (.slice Ao44 t418.length co44)) (fun _ hk => trivial)⟩, ⟨by (with_reducible repeat (first | apply zC | apply zG | apply zD)); refine zX ?_ NB399_416.out _; (with_reducible repeat (first | apply zC | apply zG | apply zD)); refine zX ?_ NB399_416.out _; (with_reducible repeat (first | apply zC | apply zG | apply zD)); refine zX ?_ NB399_422.out _; (with_reducible repeat (first | apply zC | apply zG | apply zD)); refine zX ?_ NB399_422.out _; (with_reducible repeat (first | apply zC | apply zG | apply zD)); exact BK399.out⟩, ⟨by (with_reducible repeat (first | apply zC | apply zG | apply zD)); refine zX ?_ NB405_416.out _; (with_reducible repeat (first | apply zC | apply zG | apply zD)); refine zX ?_ NB405_416.out _; (with_reducible repeat (first | apply zC | apply zG | apply zD)); refine zX ?_ NB405_422.out _; (with_reducible repeat (first | apply zC | apply zG | apply zD)); refine zX ?_ NB405_422.out _; (with_reducible repeat (first | apply zC | apply zG | apply zD)); exact BK405.out⟩, ⟨by repeat (first | (with_reducible first | exact HB.out | apply zH | apply zI | apply zJ | refine zB ?_ GE399.out | refine zB ?_ GE405.out | refine zB ?_ GE410.out | refine zB ?_ GE416.out | refine zB ?_ GE422.out) | exact HB.out)⟩⟩
     rw [if_pos c19] at H
     have c19b0 : (t421 == 0) = true := beq_iff_eq.mpr c19
     have c19b1 : (t421 != 0) = false := bne_eq_false_iff_eq.mpr c19
     clear c19
     have H' := zA.mk H
     clear H
     go_wp2
     go_roundg kj9
     case measure => have := HK1.out; have := HJ9.out; omega
     case rel => exact ⟨(wrap64 (x7_1 + 1)), (t417), (t418), (.slice Ao44 t418.length co44), (by first | rfl | (simp; done) | (simp [*]; done)), H', ⟨by have := HK1.out; have := HJ9.out; omega⟩, ⟨by (with_reducible repeat (first | apply Kd.zO | apply Kd.zM | apply Kd.zS)); exact Kd.yF (Kd.yH (p := ⟨gb405, 1, none⟩) (Kd.yH (p := ⟨gb405, 0, none⟩) (Kd.yH (p := ⟨gb416, 1, none⟩) (Kd.yH (p := ⟨gb416, 0, none⟩) (Kd.yH (p := ⟨gb422, 1, none⟩) (Kd.yH (p := ⟨gb422, 0, none⟩) (Kd.yR (Kd.yR (Kd.yR HO420.out BK422.out (by decide)) BK416.out (by decide)) BK405.out (by decide)) (fun _ hk => hk.1.1.2) (.int .i64 t417)) (fun _ hk => hk.1.1.2) (.slice Ao44 t418.length co44)) (fun _ hk => hk.1.2) (.int .i64 t417)) (fun _ hk => hk.1.2) (.slice Ao44 t418.length co44)) (fun _ hk => hk.2) (.int .i64 t417)) (fun _ hk => hk.2) (.slice Ao44 t418.length co44)) (fun _ hk => trivial)⟩, ⟨by (with_reducible repeat (first | apply zC | apply zG | apply zD)); refine zX ?_ NB399_405.out _; (with_reducible repeat (first | apply zC | apply zG | apply zD)); refine zX ?_ NB399_405.out _; (with_reducible repeat (first | apply zC | apply zG | apply zD)); refine zX ?_ NB399_416.out _; (with_reducible repeat (first | apply zC | apply zG | apply zD)); refine zX ?_ NB399_416.out _; (with_reducible repeat (first | apply zC | apply zG | apply zD)); refine zX ?_ NB399_422.out _; (with_reducible repeat (first | apply zC | apply zG | apply zD)); refine zX ?_ NB399_422.out _; (with_reducible repeat (first | apply zC | apply zG | apply zD)); exact BK399.out⟩, ⟨by (with_reducible repeat (first | apply zC | apply zG | apply zD)); refine yK (cs := #[.int .i64 t417, .slice Ao27 x406001_1.length co27]) ?_ 1 _ rfl; (with_reducible repeat (first | apply zC | apply zG | apply zD)); refine yK (cs := #[.int .i64 x406000_1, .slice Ao27 x406001_1.length co27]) ?_ 0 _ rfl; (with_reducible repeat (first | apply zC | apply zG | apply zD)); refine zX ?_ NB405_416.out _; (with_reducible repeat (first | apply zC | apply zG | apply zD)); refine zX ?_ NB405_416.out _; (with_reducible repeat (first | apply zC | apply zG | apply zD)); refine zX ?_ NB405_422.out _; (with_reducible repeat (first | apply zC | apply zG | apply zD)); refine zX ?_ NB405_422.out _; (with_reducible repeat (first | apply zC | apply zG | apply zD)); exact BK405.out⟩, ⟨by repeat (first | (with_reducible first | exact HB.out | apply zH | apply zI | apply zJ | refine zB ?_ GE399.out | refine zB ?_ GE405.out | refine zB ?_ GE410.out | refine zB ?_ GE416.out | refine zB ?_ GE422.out) | exact HB.out)⟩⟩
end Go.Proofs.YtfapmcpmfeigbaaDoor.QTreeTurns
