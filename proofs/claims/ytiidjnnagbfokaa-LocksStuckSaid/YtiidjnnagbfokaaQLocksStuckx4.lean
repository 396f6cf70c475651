/- Go functions of the program, each as a function of Lean with the proof that the Go text comes to its answers; no condition. Written by a program of this session. -/
import Derived.Test.YtiidjnnagbfokaaQLocksStuckx0
import Derived.Test.YtiidjnnagbfokaaQLocksStuckx1
import Derived.Test.YtiidjnnagbfokaaQLocksStuckx3
namespace Go.Proofs.Ytiidjnnagbfokaa.QLocksStuck
open Go.RowKit Go.Proofs.YtiidjnnagbfokaaW.PrintWords Go.Proofs.YtiidjnnagbfokaaW.PrintLast Go.Proofs.YtiidjnnagbfokaaW.PrintMore
attribute [local go_sem] max2_int min2_int max_two min_two max_three min_three max_four min_four   -- for this text's walks alone
set_option linter.unusedVariables false
set_option linter.unusedSimpArgs false

/-! ### turnspitlaw11_awake: function 10 -/
open Go.Proofs.Ytiidjnnagbfokaa.Lk
section
variable {P : Program} {ops : Array Oper} {rest : List Oper} {o : Oper} {a : Act} {Q : Exit → Act → World → Prop}
theorem C_lit_ {α : Type} (d : Kd α) {W : World} (e : Nat) (hgd : o.guard = none) {N : Tmp} (hd : o.dst = some N) {xs : List α} {inner : List Value}
    (hrun : (execOp a.eval o).run P W = .ok (.value (.slice (some ⟨W.heap.size, 0, none⟩) xs.length xs.length)) (W.alloc (.cells inner.toArray e)))
    (hrep : Reps (d.K W) d.sz xs inner) (hm : xs.length ≤ 9223372036854775807)
    (h : ∀ A c w1, d.C w1 A xs.length xs → xs.length ≤ c → Below W.heap.size W w1 → wpList P ops Q rest (a.put o.dst (.slice A xs.length c)) w1) : wpList P ops Q (o :: rest) a W := by
  refine Kd.R_lit (Kd.raw d.sz) (w0 := W) W.heap.size e hgd hd (xs := Kd.chunks d.sz xs.length inner) (inner := inner) (ok := fun _ => True) (okp := fun _ => False) (by rw [Kd.chunks_length]; exact hrun) (Kd.reps_raw hrep (fun y c hk => ⟨d.K_len hk, d.K_one hk⟩)) (fun _ hk => hk.elim) trivial (Below.refl _ _) (Nat.le_refl _) (by rw [Kd.chunks_length]; exact hm) ?_
  intro v1 w1 hR hB _ _
  obtain ⟨A, c, rfl⟩ := Kd.R_slice hR
  obtain ⟨_, hle, hC⟩ := Kd.R_reads' hR
  rw [Kd.chunks_length] at hle hC ⊢
  refine h A c w1 ⟨rfl, hm, fun hn => ?_⟩ hle hB
  obtain ⟨ad, e1, hc⟩ := hC.2.2 hn
  refine ⟨ad, e1, fun j p hp => ?_⟩
  have hj : j < xs.length := (List.getElem?_eq_some_iff.1 hp).1
  obtain ⟨c1, hl1, hk1, hcc⟩ := hc j _ (Kd.chunks_at hj)
  refine ⟨c1, hl1, ?_, hcc⟩
  rw [hk1.1]
  exact d.K_below hB (hrep.2 j p hp)
end
theorem aw_e1 : locks_Play.f 2 [[(⟨0, 1⟩ : S55)], [(⟨1, 0⟩ : S55)]] true [0, 1, 0, 1] = some ([0, 0], [(⟨[0, 1], -1⟩ : S52), (⟨[], 0⟩ : S52)], [], 0) := by kernel_rfl
theorem aw_e2 : locks_Play.f 2 [[(⟨0, 1⟩ : S55)], [(⟨1, 0⟩ : S55)]] false [0, 1, 0, 1] = some ([0, 1], [(⟨[0], 1⟩ : S52), (⟨[1], 0⟩ : S52)], [], 0) := by kernel_rfl
theorem aw_e3 : locks_Stuck.f [(⟨[0, 1], -1⟩ : S52), (⟨[], 0⟩ : S52)] = some ([], 0) := by kernel_rfl
theorem aw_e4 : locks_Stuck.f [(⟨[0], 1⟩ : S52), (⟨[1], 0⟩ : S52)] = some ([0, 1], 0) := by kernel_rfl
theorem aw_e5 : turnspitref04_Ints.f 10 [0, 0] [0, 0] = some true := by kernel_rfl
theorem aw_e6 : turnspitref04_Ints.f 10 [0, 1] [0, 1] = some true := by kernel_rfl
def turnspitlaw11_awake.f : Option Bool := some true
set_option maxHeartbeats 8000000 in
set_option maxRecDepth 100000 in
theorem turnspitlaw11_awake.calls (r : Bool) (w : World) (h : turnspitlaw11_awake.f = some r) :
    Calls Try.prog 10 #[] w fun e w' => e = .returned (.bool r) ∧ Below w.heap.size w w' := by
  obtain rfl := Option.some.inj h
  clear h
  have E1 := Aside0.mk aw_e1
  have E2 := Aside0.mk aw_e2
  have E3 := Aside0.mk aw_e3
  have E4 := Aside0.mk aw_e4
  have E5 := Aside0.mk aw_e5
  have E6 := Aside0.mk aw_e6
  have HB := Aside0.mk (Below.refl w.heap.size w)
  obtain ⟨j0, hj0⟩ : ∃ j, j = [(⟨0, 1⟩ : S55)] := ⟨_, rfl⟩
  obtain ⟨j1, hj1⟩ : ∃ j, j = [(⟨1, 0⟩ : S55)] := ⟨_, rfl⟩
  obtain ⟨js, hjs⟩ : ∃ j, j = [j0, j1] := ⟨_, rfl⟩
  obtain ⟨ps, hps⟩ : ∃ j : List Int, j = [0, 1, 0, 1] := ⟨_, rfl⟩
  obtain ⟨by1, hby1⟩ : ∃ j : List Int, j = [0, 0] := ⟨_, rfl⟩
  obtain ⟨ws1, hws1⟩ : ∃ j, j = [(⟨[0, 1], -1⟩ : S52), (⟨[], 0⟩ : S52)] := ⟨_, rfl⟩
  obtain ⟨dn, hdn⟩ : ∃ j : List Int, j = [] := ⟨_, rfl⟩
  obtain ⟨ws2, hws2⟩ : ∃ j, j = [(⟨[0], 1⟩ : S52), (⟨[1], 0⟩ : S52)] := ⟨_, rfl⟩
  obtain ⟨st2, hst2⟩ : ∃ j : List Int, j = [0, 1] := ⟨_, rfl⟩
  rw [← hj0, ← hj1, ← hjs, ← hps, ← hby1, ← hws1, ← hdn] at E1
  rw [← hj0, ← hj1, ← hjs, ← hps, ← hst2, ← hws2, ← hdn] at E2
  rw [← hws1, ← hdn] at E3
  rw [← hws2, ← hst2] at E4
  rw [← hby1] at E5
  rw [← hst2] at E6
  have l1 : ((ws1.length : Int) == 2) = true := by rw [hws1]; rfl
  have l2 : ((dn.length : Int) == 0) = true := by rw [hdn]; rfl
  have k1 : (rd_T52 ws1 0).f1 = -1 := by rw [hws1]; rfl
  have k2 : (rd_T52 ws1 1).f1 = 0 := by rw [hws1]; rfl
  have k3 : ws1.length = 2 := by rw [hws1]; rfl
  have K1 := Aside0.mk k1
  have K2 := Aside0.mk k2
  have K3 := Aside0.mk k3
  have Hj0 := Aside0.mk hj0
  have Hj1 := Aside0.mk hj1
  have Hjs := Aside0.mk hjs
  have Hps := Aside0.mk hps
  have Hby := Aside0.mk hby1
  have Hst := Aside0.mk hst2
  clear hj0 hj1 hjs hps hby1 hws1 hdn hws2 hst2 k1 k2 k3
  go_enter Try.func10, Try.ntmps10
  go_upto_region 2 with (first
    | ((with_reducible refine gate_dst (N := 17) rfl ?_); refine C_lit_ k55 55 ?hg (N := 17) ?hd (xs := ([(⟨0, 1⟩ : S55)] : List (S55))) (inner := [.int .i64 0, .int .i64 1]) ?hr ?hp (by simp) ?_; (case hd => rfl); (case hg => rfl); (case hr => first | (go_simp; done) | (go_simp; rfl)); (case hp => exact (Reps.c2 (show Kd.K k55 _ (⟨0, 1⟩ : S55) [.int .i64 0, .int .i64 1] from (k55_mk _ (⟨0, 1⟩ : S55) )) (Reps.none _ _))); rw [← Hj0.out]; intro A0 c0 w1 hC hc hb; have C0 := Aside0.mk hC; have LC0 := Aside0.mk hc; have HB1 := Aside0.mk (below_step HB.out hb); clear hC hc hb)
    | ((with_reducible refine gate_dst (N := 19) rfl ?_); refine C_lit_ k55 55 ?hg (N := 19) ?hd (xs := ([(⟨1, 0⟩ : S55)] : List (S55))) (inner := [.int .i64 1, .int .i64 0]) ?hr ?hp (by simp) ?_; (case hd => rfl); (case hg => rfl); (case hr => first | (go_simp; done) | (go_simp; rfl)); (case hp => exact (Reps.c2 (show Kd.K k55 _ (⟨1, 0⟩ : S55) [.int .i64 1, .int .i64 0] from (k55_mk _ (⟨1, 0⟩ : S55) )) (Reps.none _ _))); rw [← Hj1.out]; intro A1 c1 w2 hC hc hb; have C1 := Aside0.mk hC; have LC1 := Aside0.mk hc; have C0' := Aside0.mk (Kd.C_below C0.out hb); have HB2 := Aside0.mk (below_step HB1.out hb); clear hC hc hb)
    | ((with_reducible refine gate_dst (N := 20) rfl ?_); refine C_lit_ (Kd.slice 55 k55) 41 ?hg (N := 20) ?hd (xs := ([j0, j1] : List (List S55))) (inner := [.slice A0 j0.length c0, .slice A1 j1.length c1]) ?hr ?hp (by simp) ?_; (case hd => rfl); (case hg => rfl); (case hr => first | (go_simp; done) | (go_simp; rfl)); (case hp => exact Reps.one (show (Kd.slice 55 k55).K _ j0 [.slice A0 j0.length c0] from ⟨_, _, rfl, LC0.out, C0'.out⟩) (Reps.one (show (Kd.slice 55 k55).K _ j1 [.slice A1 j1.length c1] from ⟨_, _, rfl, LC1.out, C1.out⟩) (Reps.none _ _))); rw [← Hjs.out]; intro A2 c2 w3 hC hc hb; have CJ := Aside0.mk hC; have LCJ := Aside0.mk hc; have HB3 := Aside0.mk (below_step HB2.out hb); clear hC hc hb))
  clear HB HB1 HB2 C0 C1 C0' LC0 LC1 Hj0 Hj1
  go_upto_region 3 with (first
    | ((with_reducible refine gate_dst (N := 23) rfl ?_); refine C_lit_ (Kd.int .i64) 3 ?hg (N := 23) ?hd (xs := ([0, 1, 0, 1] : List Int)) (inner := [.int .i64 0, .int .i64 1, .int .i64 0, .int .i64 1]) ?hr ?hp (by simp) ?_; (case hd => rfl); (case hg => rfl); (case hr => first | (go_simp; done) | (go_simp; rfl)); (case hp => exact (Reps.one (show (Kd.int .i64).K _ 0 [.int .i64 0] from rfl) (Reps.one (show (Kd.int .i64).K _ 1 [.int .i64 1] from rfl) (Reps.one (show (Kd.int .i64).K _ 0 [.int .i64 0] from rfl) (Reps.one (show (Kd.int .i64).K _ 1 [.int .i64 1] from rfl) (Reps.none _ _)))))); rw [← Hps.out]; intro A3 c3 w4 hC hc hb; have CP := Aside0.mk hC; have LCP := Aside0.mk hc; have CJ4 := Aside0.mk (Kd.C_below CJ.out hb); have HB4 := Aside0.mk (below_step HB3.out hb); clear hC hc hb)
    | (go_at_call 23; (with_reducible refine (locks_Play.calls 2 A2 c2 js true A3 c3 ps by1 ws1 dn 0 _ CJ4.out LCJ.out CP.out LCP.out E1.out).mono ?_); rintro e w5 ⟨v0, v1, v2, rfl, hR0, hS1, hR2, hb⟩; obtain ⟨Ab, cb, rfl⟩ := Kd.R_slice hR0; obtain ⟨Aw, cw, rfl⟩ := Kd.R_slice (Kd.S_R hS1); obtain ⟨Ad, cd, rfl⟩ := Kd.R_slice hR2; have C5b := Aside0.mk (Kd.R_reads' hR0).2; have C5w := Aside0.mk (Kd.R_reads' (Kd.S_R hS1)).2; have CJ5 := Aside0.mk (Kd.C_below CJ4.out hb); have HB5 := Aside0.mk (below_step HB4.out hb); clear hR0 hS1 hR2 hb)
    | ((with_reducible refine gate_dst (N := 2) rfl ?_); refine box_event ?hg (N := 2) ?hd (cs := #[.slice none 0 0]) (t := 24) ?hr ?_; (case hd => rfl); (case hg => rfl); (case hr => first | (go_simp; done) | (go_simp; rfl)); intro gb hg w6 hbox hb; have HG := Aside0.mk (Nat.le_of_eq hg.symm); have HBX := Aside0.mk hbox; have HB56 := Aside0.mk hb; have hcz := (blk_cell HBX.out 0).trans rfl; have hfz := blk_frozen HBX.out 0; clear hg hbox hb))
  have D7 := HB56.out.setCell (p := ⟨gb, 0, none⟩) HG.out (.slice Ab by1.length cb)
  have BK7 := blk_set HBX.out 0 (.slice Ab by1.length cb)
  generalize hw7 : w6.setCell ⟨gb, 0, none⟩ (.slice Ab by1.length cb) = w7 at D7 BK7 ⊢
  have C7b := Aside0.mk (Kd.C_below C5b.out.2 D7)
  have C7w := Aside0.mk (Kd.C_below C5w.out.2 D7)
  have CJ7 := Aside0.mk (Kd.C_below CJ5.out D7)
  have HB7 := Aside0.mk (below_step HB5.out D7)
  have LCb := Aside0.mk C5b.out.1
  have LCw := Aside0.mk C5w.out.1
  have B7 := Aside0.mk BK7
  clear hw7 D7 BK7 C5b C5w CJ5 HB5 HB56 HBX HG hcz hfz CJ4 CJ HB3 HB4 CP LCP
  go_upto_region 4 with (first
    | ((with_reducible refine gate_dst (N := 31) rfl ?_); refine C_lit_ (Kd.int .i64) 3 ?hg (N := 31) ?hd (xs := ([0, 1, 0, 1] : List Int)) (inner := [.int .i64 0, .int .i64 1, .int .i64 0, .int .i64 1]) ?hr ?hp (by simp) ?_; (case hd => rfl); (case hg => rfl); (case hr => first | (go_simp; done) | (go_simp; rfl)); (case hp => exact (Reps.one (show (Kd.int .i64).K _ 0 [.int .i64 0] from rfl) (Reps.one (show (Kd.int .i64).K _ 1 [.int .i64 1] from rfl) (Reps.one (show (Kd.int .i64).K _ 0 [.int .i64 0] from rfl) (Reps.one (show (Kd.int .i64).K _ 1 [.int .i64 1] from rfl) (Reps.none _ _)))))); rw [← Hps.out]; intro A4 c4 w8 hC hc hb; have CP := Aside0.mk hC; have LCP := Aside0.mk hc; have CJ8 := Aside0.mk (Kd.C_below CJ7.out hb); have C8b := Aside0.mk (Kd.C_below C7b.out hb); have C8w := Aside0.mk (Kd.C_below C7w.out hb); have B8 := Aside0.mk (blk_below B7.out hb); have HB8 := Aside0.mk (below_step HB7.out hb); clear hC hc hb)
    | (go_at_call 23; (with_reducible refine (locks_Play.calls 2 A2 c2 js false A4 c4 ps st2 ws2 dn 0 _ CJ8.out LCJ.out CP.out LCP.out E2.out).mono ?_); rintro e w9 ⟨v0, v1, v2, rfl, hR0, hS1, hR2, hb⟩; obtain ⟨Ab2, cb2, rfl⟩ := Kd.R_slice hR0; obtain ⟨Aw2, cw2, rfl⟩ := Kd.R_slice (Kd.S_R hS1); obtain ⟨Ad2, cd2, rfl⟩ := Kd.R_slice hR2; have C9v := Aside0.mk (Kd.R_reads' (Kd.S_R hS1)).2; have C9b := Aside0.mk (Kd.C_below C8b.out hb); have C9w := Aside0.mk (Kd.C_below C8w.out hb); have B9 := Aside0.mk (blk_below B8.out hb); have HB9 := Aside0.mk (below_step HB8.out hb); clear hR0 hS1 hR2 hb)
    | ((with_reducible refine gate_dst (N := 6) rfl ?_); refine box_event ?hg (N := 6) ?hd (cs := #[.slice none 0 0]) (t := 24) ?hr ?_; (case hd => rfl); (case hg => rfl); (case hr => first | (go_simp; done) | (go_simp; rfl)); intro gc hg w10 hbox hb; have HG := Aside0.mk (Nat.le_of_eq hg.symm); have HBX := Aside0.mk hbox; have HB910 := Aside0.mk hb; have hcz := (blk_cell HBX.out 0).trans rfl; have hfz := blk_frozen HBX.out 0; clear hg hbox hb))
  have D11 := HB910.out.setCell (p := ⟨gc, 0, none⟩) HG.out (.slice Ab2 st2.length cb2)
  generalize hw11 : w10.setCell ⟨gc, 0, none⟩ (.slice Ab2 st2.length cb2) = w11 at D11 ⊢
  have C11b := Aside0.mk (Kd.C_below C9b.out D11)
  have C11w := Aside0.mk (Kd.C_below C9w.out D11)
  have C11v := Aside0.mk (Kd.C_below C9v.out.2 D11)
  have LCv := Aside0.mk C9v.out.1
  have B11 := Aside0.mk (blk_below B9.out D11)
  have HB11 := Aside0.mk (below_step HB9.out D11)
  clear hw11 D11 C9b C9w C9v B9 HB9 HB910 HBX HG hcz hfz C8b C8w B8 HB8 C7b C7w B7 HB7 CJ8 CJ7 CP LCP LCJ E1 E2 Hjs Hps
  go_upto_region 7 with (first
    | (go_at_call 21; (with_reducible refine (locks_Stuck.calls Aw cw ws1 dn 0 _ C11w.out LCw.out E3.out).mono ?_); rintro e w12 ⟨v0, rfl, hR0, hb⟩; obtain ⟨As, cs, rfl⟩ := Kd.R_slice hR0; have C12b := Aside0.mk (Kd.C_below C11b.out hb); have C12w := Aside0.mk (Kd.C_below C11w.out hb); have C12v := Aside0.mk (Kd.C_below C11v.out hb); have B12 := Aside0.mk (blk_below B11.out hb); have HB12 := Aside0.mk (below_step HB11.out hb); clear hR0 hb)
    | (go_at_call 21; (with_reducible refine (locks_Stuck.calls Aw2 cw2 ws2 st2 0 _ C12v.out LCv.out E4.out).mono ?_); rintro e w13 ⟨v0, rfl, hR0, hb⟩; obtain ⟨At, ct, rfl⟩ := Kd.R_slice hR0; have C13t := Aside0.mk (Kd.R_reads' hR0).2.2; have LCt := Aside0.mk (Kd.R_reads' hR0).2.1; have C13b := Aside0.mk (Kd.C_below C12b.out hb); have C13w := Aside0.mk (Kd.C_below C12w.out hb); have B13 := Aside0.mk (blk_below B12.out hb); have HB13 := Aside0.mk (below_step HB12.out hb); clear hR0 hb)
    | (go_at_call 17; (with_reducible refine (locks_Pair.calls 5 3 3 5 _ (by kernel_rfl)).mono ?_); rintro e w14 ⟨rfl, hb⟩; have C14t := Aside0.mk (Kd.C_below C13t.out hb); have C14b := Aside0.mk (Kd.C_below C13b.out hb); have C14w := Aside0.mk (Kd.C_below C13w.out hb); have B14 := Aside0.mk (blk_below B13.out hb); have HB14 := Aside0.mk (below_step HB13.out hb); clear hb))
  clear C11b C11w C11v B11 HB11 C12b C12w C12v B12 HB12 C13t C13b C13w B13 HB13 E3 E4 LCv
  have hcz := (blk_cell B14.out 0).trans rfl
  go_wp2_with (first
    | ((with_reducible refine gate_dst (N := 67) rfl ?_); (try (refine gate_guard (by rfl) ?_; dsimp only)); refine C_lit_ (Kd.int .i64) 3 ?hg (N := 67) ?hd (xs := ([0, 0] : List Int)) (inner := [.int .i64 0, .int .i64 0]) ?hr ?hp (by simp) ?_; (case hd => rfl); (case hg => rfl); (case hr => first | (go_simp; done) | (go_simp; rfl)); (case hp => exact (Reps.one (show (Kd.int .i64).K _ 0 [.int .i64 0] from rfl) (Reps.one (show (Kd.int .i64).K _ 0 [.int .i64 0] from rfl) (Reps.none _ _)))); rw [← Hby.out]; intro A5 c5 w15 hC hc hb; have C15y := Aside0.mk hC; have LC15 := Aside0.mk hc; have C15t := Aside0.mk (Kd.C_below C14t.out hb); have C15b := Aside0.mk (Kd.C_below C14b.out hb); have C15w := Aside0.mk (Kd.C_below C14w.out hb); have HB15 := Aside0.mk (below_step HB14.out hb); clear hC hc hb)
    | (go_at_call 19; (with_reducible refine (turnspitref04_Ints.calls 10 Ab cb by1 A5 c5 by1 true _ C15b.out LCb.out C15y.out LC15.out E5.out).mono ?_); rintro e w16 ⟨rfl, hd⟩; have hb := hd.below; have C16t := Aside0.mk (Kd.C_below C15t.out hb); have C16w := Aside0.mk (Kd.C_below C15w.out hb); have HB16 := Aside0.mk (below_step HB15.out hb); clear hd hb; obtain ⟨ad0, _, _, e0, _, x1, _, _⟩ := at_T52 C16w.out 0 (by omega) (by have := K3.out; omega); obtain ⟨ad1, _, _, e1, _, y1, _, _⟩ := at_T52 C16w.out 1 (by omega) (by have := K3.out; omega); subst e0; obtain rfl := Option.some.inj e1; rw [K1.out] at x1; rw [K2.out] at y1; rw [show ((0 : Int)).toNat * 2 = 0 from rfl, Addr.add_zero'] at x1; simp only [show (1 : Int).toNat = 1 from rfl, Nat.reduceMul, Nat.reduceEqDiff, Go.Addr.add, ↓reduceIte] at y1; have p0 : (0 < ws1.length) = True := eq_true (by have := K3.out; omega); have p1 : (1 < ws1.length) = True := eq_true (by have := K3.out; omega); have p2 : ((0 : Int) < (ws1.length : Int)) = True := eq_true (by have := K3.out; omega); have p3 : ((1 : Int) < (ws1.length : Int)) = True := eq_true (by have := K3.out; omega))
    | ((with_reducible refine gate_dst (N := 100) rfl ?_); (try (refine gate_guard (by rfl) ?_; dsimp only)); refine C_lit_ (Kd.int .i64) 3 ?hg (N := 100) ?hd (xs := ([0, 1] : List Int)) (inner := [.int .i64 0, .int .i64 1]) ?hr ?hp (by simp) ?_; (case hd => rfl); (case hg => rfl); (case hr => first | (go_simp; done) | (go_simp; rfl)); (case hp => exact (Reps.one (show (Kd.int .i64).K _ 0 [.int .i64 0] from rfl) (Reps.one (show (Kd.int .i64).K _ 1 [.int .i64 1] from rfl) (Reps.none _ _)))); rw [← Hst.out]; intro A6 c6 w17 hC hc hb; have C17y := Aside0.mk hC; have LC17 := Aside0.mk hc; have C17t := Aside0.mk (Kd.C_below C16t.out hb); have HB17 := Aside0.mk (below_step HB16.out hb); clear hC hc hb)
    | (go_at_call 19; (with_reducible refine (turnspitref04_Ints.calls 10 At ct st2 A6 c6 st2 true _ C17t.out LCt.out C17y.out LC17.out E6.out).mono ?_); rintro e w18 ⟨rfl, hd⟩; have HB18 := Aside0.mk (below_step HB17.out hd.below); clear hd))
  go_ret
  exact ⟨rfl, HB18.out⟩


/-! ### turnspitlaw11_few: function 20 -/
def turnspitlaw11_few.l0 : Nat → List (S52) → Int → Int → Option (Bool)
  | 0, _, _, _ => none
  | k + 1, x0, x3, x4 => if x4 < (x0.length : Int) then (if x3 ≤ 200 then (if 0 ≤ x4 then (turnspitlaw11_few.l0 k x0 (wrap64 ((wrap64 (x3 + 1)) + (((rd_T52 x0 x4).f0).length : Int))) (wrap64 (x4 + 1))) else (none)) else (some (decide (x3 ≤ 200)))) else (some (decide (x3 ≤ 200)))
def turnspitlaw11_few.f (k : Nat) (l0 : List (S52)) : Option (Bool) := turnspitlaw11_few.l0 k l0 0 0
theorem turnspitlaw11_few.mono_l : ∀ k, (∀ y0 y1 y2, LeO (turnspitlaw11_few.l0 k y0 y1 y2) (turnspitlaw11_few.l0 (k + 1) y0 y1 y2))
  | 0 => fun _ _ _ r h => by simp [turnspitlaw11_few.l0] at h
  | k + 1 => by
    have ih0 := turnspitlaw11_few.mono_l k
    · intro y0 y1 y2
      unfold turnspitlaw11_few.l0
      repeat' first
      | (with_reducible exact ih0 _ _ _)
      | (with_reducible exact LeO.refl _)
      | (with_reducible exact LeO.none _)
      | (with_reducible refine LeO.ite ?_ ?_)
      | (with_reducible refine LeO.bind ?_ (fun _ => ?_))
      | exact ih0 _ _ _
      | exact LeO.none _
      | refine LeO.ite ?_ ?_
      | refine LeO.bind ?_ (fun _ => ?_)
theorem turnspitlaw11_few.mono : ∀ a0 k, LeO (turnspitlaw11_few.f k a0) (turnspitlaw11_few.f (k + 1) a0) := by
  intro a0 k
  have ih0 := turnspitlaw11_few.mono_l k
  unfold turnspitlaw11_few.f
  repeat' first
      | (with_reducible exact ih0 _ _ _)
      | (with_reducible exact LeO.refl _)
      | (with_reducible exact LeO.none _)
      | (with_reducible refine LeO.ite ?_ ?_)
      | (with_reducible refine LeO.bind ?_ (fun _ => ?_))
      | exact ih0 _ _ _
      | exact LeO.none _
      | refine LeO.ite ?_ ?_
      | refine LeO.bind ?_ (fun _ => ?_)
set_option maxHeartbeats 8000000 in
set_option maxRecDepth 100000 in
theorem turnspitlaw11_few.calls (k : Nat) (A0 : Option Addr) (c0 : Nat) (l0 : List (S52)) (r : Bool) (w : World) (hr0 : Kd.C k52 w A0 l0.length l0) (hc0 : l0.length ≤ c0) (h : turnspitlaw11_few.f k l0 = some r) :
    Calls Try.prog 20 #[.slice A0 l0.length c0] w fun e w' => e = .returned (.bool r) ∧ Drawn0 w w' := by
  have HR0 := Aside0.mk hr0
  have HC0 := Aside0.mk hc0
  clear hr0 hc0
  have H : (turnspitlaw11_few.l0 k l0 0 0) = some r := h
  clear h
  have H' := Aside0.mk H
  clear H
  go_enter Try.func20, Try.ntmps20
  go_wp2
  go_loopg [3, 4] k (fun kq v3 v4 w' => ∃ (x3_1 : Int) (x4_1 : Int), v3 = .int .i64 x3_1 ∧ v4 = .int .i64 x4_1 ∧ Aside0 (turnspitlaw11_few.l0 kq l0 x3_1 x4_1 = some r) ∧ Aside0 (kq ≤ k) ∧ Drawn0 w w')
  case atStart => exact ⟨(0), (0), (by first | rfl | (simp; done) | (simp [*]; done)), (by first | rfl | (simp; done) | (simp [*]; done)), H', ⟨Nat.le_refl _⟩, by repeat (first | exact Drawn0.refl _ | apply Drawn0.step)⟩
  case round =>
    clear H'
    obtain ⟨x3_1, x4_1, rfl, rfl, HA, HK1, ⟨m1, rfl⟩⟩ := hrel
    cases gk with
    | zero => exact absurd HA.out (by simp [turnspitlaw11_few.l0])
    | succ k1 =>
      have H := HA.out
      clear HA
      simp only [turnspitlaw11_few.l0] at H
      by_cases c2 : x4_1 < (l0.length : Int)
      · rw [if_pos c2] at H
        have c2b0 : decide (x4_1 < (l0.length : Int)) = true := decide_eq_true c2
        clear c2
        by_cases c3 : x3_1 ≤ 200
        · rw [if_pos c3] at H
          have c3b0 : decide (x3_1 ≤ 200) = true := decide_eq_true c3
          clear c3
          by_cases c4 : 0 ≤ x4_1
          · rw [if_pos c4] at H
            have c4b0 : decide (0 ≤ x4_1) = true := decide_eq_true c4
            clear c4
            have H' := Aside0.mk H
            clear H
            have p172 : 0 ≤ (x4_1 : Int) := of_decide_eq_true (by first | (with_reducible assumption) | assumption)
            have q172 : x4_1 < (l0.length : Int) := of_decide_eq_true (by first | (with_reducible assumption) | assumption)
            obtain ⟨ad172, A172_0, c172_0, e172, hx172_0, hx172_1, hl172_0, hi172_0⟩ := at_T52 HR0.out x4_1 p172 q172
            cases e172
            have HR172_0 := Aside0.mk hi172_0
            have HC172_0 := Aside0.mk hl172_0
            clear hi172_0 hl172_0
            replace p172 := eq_true p172
            replace q172 := eq_true q172
            go_wp2
            go_roundg k1
            case measure => have := HK1.out; omega
            case rel => exact ⟨(wrap64 ((wrap64 (x3_1 + 1)) + (((rd_T52 l0 x4_1).f0).length : Int))), (wrap64 (x4_1 + 1)), (by first | rfl | (simp; done) | (simp [*]; done)), (by first | rfl | (simp; done) | (simp [*]; done)), H', ⟨by have := HK1.out; omega⟩, by repeat (first | exact Drawn0.refl _ | apply Drawn0.step)⟩
          · rw [if_neg c4] at H
            exact absurd H (by simp)
        · rw [if_neg c3] at H
          have c3b0 : decide (x3_1 ≤ 200) = false := decide_eq_false c3
          clear c3
          obtain rfl := Option.some.inj H
          go_wp2
          go_ret
          exact ⟨by first | rfl | (simp; done) | (simp [*]; done), by repeat (first | exact Drawn0.refl _ | apply Drawn0.step)⟩
      · rw [if_neg c2] at H
        have c2b0 : decide (x4_1 < (l0.length : Int)) = false := decide_eq_false c2
        clear c2
        obtain rfl := Option.some.inj H
        go_wp2
        go_ret
        exact ⟨by first | rfl | (simp; done) | (simp [*]; done), by repeat (first | exact Drawn0.refl _ | apply Drawn0.step)⟩

/-! ### turnspitref11_in: function 33 -/
def turnspitref11_in.l0 : Nat → List Int → Int → Int → Option (Bool)
  | 0, _, _, _ => none
  | k + 1, x0, x1, x5 => if x5 < (x0.length : Int) then (if 0 ≤ x5 then (if (rd x0 x5) = x1 then (some true) else (turnspitref11_in.l0 k x0 x1 (wrap64 (x5 + 1)))) else (none)) else (some false)
def turnspitref11_in.f (k : Nat) (l0 : List Int) (a1 : Int) : Option (Bool) := turnspitref11_in.l0 k l0 a1 0
theorem turnspitref11_in.mono_l : ∀ k, (∀ y0 y1 y2, LeO (turnspitref11_in.l0 k y0 y1 y2) (turnspitref11_in.l0 (k + 1) y0 y1 y2))
  | 0 => fun _ _ _ r h => by simp [turnspitref11_in.l0] at h
  | k + 1 => by
    have ih0 := turnspitref11_in.mono_l k
    · intro y0 y1 y2
      unfold turnspitref11_in.l0
      repeat' first
      | (with_reducible exact ih0 _ _ _)
      | (with_reducible exact LeO.refl _)
      | (with_reducible exact LeO.none _)
      | (with_reducible refine LeO.ite ?_ ?_)
      | (with_reducible refine LeO.bind ?_ (fun _ => ?_))
      | exact ih0 _ _ _
      | exact LeO.none _
      | refine LeO.ite ?_ ?_
      | refine LeO.bind ?_ (fun _ => ?_)
theorem turnspitref11_in.mono : ∀ a0 a1 k, LeO (turnspitref11_in.f k a0 a1) (turnspitref11_in.f (k + 1) a0 a1) := by
  intro a0 a1 k
  have ih0 := turnspitref11_in.mono_l k
  unfold turnspitref11_in.f
  repeat' first
      | (with_reducible exact ih0 _ _ _)
      | (with_reducible exact LeO.refl _)
      | (with_reducible exact LeO.none _)
      | (with_reducible refine LeO.ite ?_ ?_)
      | (with_reducible refine LeO.bind ?_ (fun _ => ?_))
      | exact ih0 _ _ _
      | exact LeO.none _
      | refine LeO.ite ?_ ?_
      | refine LeO.bind ?_ (fun _ => ?_)
set_option maxHeartbeats 8000000 in
set_option maxRecDepth 100000 in
theorem turnspitref11_in.calls (k : Nat) (A0 : Option Addr) (c0 : Nat) (l0 : List Int) (a1 : Int) (r : Bool) (w : World) (hr0 : Kd.C (Kd.int .i64) w A0 l0.length l0) (hc0 : l0.length ≤ c0) (h : turnspitref11_in.f k l0 a1 = some r) :
    Calls Try.prog 33 #[.slice A0 l0.length c0, .int .i64 a1] w fun e w' => e = .returned (.bool r) ∧ Drawn0 w w' := by
  have HR0 := Aside0.mk hr0
  have HC0 := Aside0.mk hc0
  clear hr0 hc0
  have H : (turnspitref11_in.l0 k l0 a1 0) = some r := h
  clear h
  have H' := Aside0.mk H
  clear H
  go_enter Try.func33, Try.ntmps33
  go_wp2
  go_loopg [5] k (fun kq v5 w' => ∃ (x5_1 : Int), v5 = .int .i64 x5_1 ∧ Aside0 (turnspitref11_in.l0 kq l0 a1 x5_1 = some r) ∧ Aside0 (kq ≤ k) ∧ Drawn0 w w')
  case atStart => exact ⟨(0), (by first | rfl | (simp; done) | (simp [*]; done)), H', ⟨Nat.le_refl _⟩, by repeat (first | exact Drawn0.refl _ | apply Drawn0.step)⟩
  case round =>
    clear H'
    try clear p2
    obtain ⟨x5_1, rfl, HA, HK1, ⟨m1, rfl⟩⟩ := hrel
    cases gk with
    | zero => exact absurd HA.out (by simp [turnspitref11_in.l0])
    | succ k1 =>
      have H := HA.out
      clear HA
      simp only [turnspitref11_in.l0] at H
      by_cases c3 : x5_1 < (l0.length : Int)
      · rw [if_pos c3] at H
        have c3b0 : decide (x5_1 < (l0.length : Int)) = true := decide_eq_true c3
        clear c3
        by_cases c4 : 0 ≤ x5_1
        · rw [if_pos c4] at H
          have c4b0 : decide (0 ≤ x5_1) = true := decide_eq_true c4
          clear c4
          by_cases c5 : (rd l0 x5_1) = a1
          · rw [if_pos c5] at H
            have c5b0 : ((rd l0 x5_1) == a1) = true := beq_iff_eq.mpr c5
            have c5b1 : ((rd l0 x5_1) != a1) = false := bne_eq_false_iff_eq.mpr c5
            clear c5
            obtain rfl := Option.some.inj H
            have p173 : 0 ≤ (x5_1 : Int) := of_decide_eq_true (by first | (with_reducible assumption) | assumption)
            have q173 : x5_1 < (l0.length : Int) := of_decide_eq_true (by first | (with_reducible assumption) | assumption)
            obtain ⟨ad173, e173, hx173_0⟩ := Kd.at_int HR0.out x5_1 p173 q173
            cases e173
            replace p173 := eq_true p173
            replace q173 := eq_true q173
            go_wp2
            go_ret
            exact ⟨by first | rfl | (simp; done) | (simp [*]; done), by repeat (first | exact Drawn0.refl _ | apply Drawn0.step)⟩
          · rw [if_neg c5] at H
            have c5b0 : ((rd l0 x5_1) == a1) = false := beq_eq_false_iff_ne.mpr c5
            have c5b1 : ((rd l0 x5_1) != a1) = true := bne_iff_ne.mpr c5
            have H' := Aside0.mk H
            clear H
            have p173 : 0 ≤ (x5_1 : Int) := of_decide_eq_true (by first | (with_reducible assumption) | assumption)
            have q173 : x5_1 < (l0.length : Int) := of_decide_eq_true (by first | (with_reducible assumption) | assumption)
            obtain ⟨ad173, e173, hx173_0⟩ := Kd.at_int HR0.out x5_1 p173 q173
            cases e173
            replace p173 := eq_true p173
            replace q173 := eq_true q173
            go_wp2
            go_roundg k1
            case measure => have := HK1.out; omega
            case rel => exact ⟨(wrap64 (x5_1 + 1)), (by first | rfl | (simp; done) | (simp [*]; done)), H', ⟨by have := HK1.out; omega⟩, by repeat (first | exact Drawn0.refl _ | apply Drawn0.step)⟩
        · rw [if_neg c4] at H
          exact absurd H (by simp)
      · rw [if_neg c3] at H
        have c3b0 : decide (x5_1 < (l0.length : Int)) = false := decide_eq_false c3
        clear c3
        obtain rfl := Option.some.inj H
        go_wp2
        go_ret
        exact ⟨by first | rfl | (simp; done) | (simp [*]; done), by repeat (first | exact Drawn0.refl _ | apply Drawn0.step)⟩

/-! ### turnspitref11_holder: function 34 -/
def turnspitref11_holder.l0 : Nat → List (S52) → List Int → Int → Int → Option (Int)
  | 0, _, _, _, _ => none
  | k + 1, x0, x1, x2, x7 => if x7 < (x1.length : Int) then (if 0 ≤ x7 then (if 0 ≤ (rd x1 x7) then (if (rd x1 x7) < (x0.length : Int) then ((turnspitref11_in.f k ((rd_T52 x0 (rd x1 x7)).f0) x2).bind fun t176 => (if t176 = true then (some (rd x1 x7)) else (turnspitref11_holder.l0 k x0 x1 x2 (wrap64 (x7 + 1))))) else (none)) else (none)) else (none)) else (some (-1))
def turnspitref11_holder.f (k : Nat) (l0 : List (S52)) (l1 : List Int) (a2 : Int) : Option (Int) := turnspitref11_holder.l0 k l0 l1 a2 0
theorem turnspitref11_holder.mono_l : ∀ k, (∀ y0 y1 y2 y3, LeO (turnspitref11_holder.l0 k y0 y1 y2 y3) (turnspitref11_holder.l0 (k + 1) y0 y1 y2 y3))
  | 0 => fun _ _ _ _ r h => by simp [turnspitref11_holder.l0] at h
  | k + 1 => by
    have ih0 := turnspitref11_holder.mono_l k
    · intro y0 y1 y2 y3
      unfold turnspitref11_holder.l0
      repeat' first
      | (with_reducible exact ih0 _ _ _ _)
      | (with_reducible exact turnspitref11_in.mono _ _ _)
      | (with_reducible exact LeO.refl _)
      | (with_reducible exact LeO.none _)
      | (with_reducible refine LeO.ite ?_ ?_)
      | (with_reducible refine LeO.bind ?_ (fun _ => ?_))
      | exact ih0 _ _ _ _
      | exact turnspitref11_in.mono _ _ _
      | exact LeO.none _
      | refine LeO.ite ?_ ?_
      | refine LeO.bind ?_ (fun _ => ?_)
theorem turnspitref11_holder.mono : ∀ a0 a1 a2 k, LeO (turnspitref11_holder.f k a0 a1 a2) (turnspitref11_holder.f (k + 1) a0 a1 a2) := by
  intro a0 a1 a2 k
  have ih0 := turnspitref11_holder.mono_l k
  unfold turnspitref11_holder.f
  repeat' first
      | (with_reducible exact ih0 _ _ _ _)
      | (with_reducible exact turnspitref11_in.mono _ _ _)
      | (with_reducible exact LeO.refl _)
      | (with_reducible exact LeO.none _)
      | (with_reducible refine LeO.ite ?_ ?_)
      | (with_reducible refine LeO.bind ?_ (fun _ => ?_))
      | exact ih0 _ _ _ _
      | exact turnspitref11_in.mono _ _ _
      | exact LeO.none _
      | refine LeO.ite ?_ ?_
      | refine LeO.bind ?_ (fun _ => ?_)
set_option maxHeartbeats 8000000 in
set_option maxRecDepth 100000 in
theorem turnspitref11_holder.calls (k : Nat) (A0 : Option Addr) (c0 : Nat) (l0 : List (S52)) (A1 : Option Addr) (c1 : Nat) (l1 : List Int) (a2 : Int) (r : Int) (w : World) (hr0 : Kd.C k52 w A0 l0.length l0) (hc0 : l0.length ≤ c0) (hr1 : Kd.C (Kd.int .i64) w A1 l1.length l1) (hc1 : l1.length ≤ c1) (h : turnspitref11_holder.f k l0 l1 a2 = some r) :
    Calls Try.prog 34 #[.slice A0 l0.length c0, .slice A1 l1.length c1, .int .i64 a2] w fun e w' => e = .returned (.int .i64 r) ∧ Drawn0 w w' := by
  have HR0 := Aside0.mk hr0
  have HC0 := Aside0.mk hc0
  clear hr0 hc0
  have HR1 := Aside0.mk hr1
  have HC1 := Aside0.mk hc1
  clear hr1 hc1
  have H : (turnspitref11_holder.l0 k l0 l1 a2 0) = some r := h
  clear h
  have H' := Aside0.mk H
  clear H
  go_enter Try.func34, Try.ntmps34
  go_wp2
  go_loopg [7] k (fun kq v7 w' => ∃ (x7_1 : Int), v7 = .int .i64 x7_1 ∧ Aside0 (turnspitref11_holder.l0 kq l0 l1 a2 x7_1 = some r) ∧ Aside0 (kq ≤ k) ∧ Drawn0 w w')
  case atStart => exact ⟨(0), (by first | rfl | (simp; done) | (simp [*]; done)), H', ⟨Nat.le_refl _⟩, by repeat (first | exact Drawn0.refl _ | apply Drawn0.step)⟩
  case round =>
    clear H'
    try clear c1
    try clear p2
    try clear c3
    obtain ⟨x7_1, rfl, HA, HK1, ⟨m1, rfl⟩⟩ := hrel
    cases gk with
    | zero => exact absurd HA.out (by simp [turnspitref11_holder.l0])
    | succ k1 =>
      have H := HA.out
      clear HA
      simp only [turnspitref11_holder.l0] at H
      by_cases c4 : x7_1 < (l1.length : Int)
      · rw [if_pos c4] at H
        have c4b0 : decide (x7_1 < (l1.length : Int)) = true := decide_eq_true c4
        clear c4
        by_cases c5 : 0 ≤ x7_1
        · rw [if_pos c5] at H
          have c5b0 : decide (0 ≤ x7_1) = true := decide_eq_true c5
          clear c5
          by_cases c6 : 0 ≤ (rd l1 x7_1)
          · rw [if_pos c6] at H
            have c6b0 : decide (0 ≤ (rd l1 x7_1)) = true := decide_eq_true c6
            clear c6
            by_cases c7 : (rd l1 x7_1) < (l0.length : Int)
            · rw [if_pos c7] at H
              have c7b0 : decide ((rd l1 x7_1) < (l0.length : Int)) = true := decide_eq_true c7
              clear c7
              replace H := Option.bind_eq_some_iff.mp H
              obtain ⟨t176, A80, H⟩ := H
              replace H : (if t176 = true then (some (rd l1 x7_1)) else (turnspitref11_holder.l0 k1 l0 l1 a2 (wrap64 (x7_1 + 1)))) = some r := H
              have A8 := Aside0.mk A80
              clear A80
              by_cases c9 : t176 = true
              · subst c9
                have H1 : (some (rd l1 x7_1)) = some r := by first | (rw [if_pos rfl] at H; exact H) | (rw [if_pos trivial] at H; exact H)
                clear H
                have H := H1
                clear H1
                obtain rfl := Option.some.inj H
                have p174 : 0 ≤ (x7_1 : Int) := of_decide_eq_true (by first | (with_reducible assumption) | assumption)
                have q174 : x7_1 < (l1.length : Int) := of_decide_eq_true (by first | (with_reducible assumption) | assumption)
                obtain ⟨ad174, e174, hx174_0⟩ := Kd.at_int HR1.out x7_1 p174 q174
                cases e174
                replace p174 := eq_true p174
                replace q174 := eq_true q174
                have p175 : 0 ≤ ((rd l1 x7_1) : Int) := of_decide_eq_true (by first | (with_reducible assumption) | assumption)
                have q175 : (rd l1 x7_1) < (l0.length : Int) := of_decide_eq_true (by first | (with_reducible assumption) | assumption)
                obtain ⟨ad175, A175_0, c175_0, e175, hx175_0, hx175_1, hl175_0, hi175_0⟩ := at_T52 HR0.out (rd l1 x7_1) p175 q175
                cases e175
                have HR175_0 := Aside0.mk hi175_0
                have HC175_0 := Aside0.mk hl175_0
                clear hi175_0 hl175_0
                replace p175 := eq_true p175
                replace q175 := eq_true q175
                go_wp2_with (first | ((with_reducible refine gate_callee (f := 33) rfl ?_); refine goesL_ (some 23) rfl rfl Try.func33 (by kernel_rfl) rfl #[.slice A175_0 ((rd_T52 l0 (rd l1 x7_1)).f0).length c175_0, .int .i64 a2] rfl (by (try simp only [List.map_toArray, List.map_cons, List.map_nil]); first | done | rfl | (simp only [List.length_drop, List.length_take]; rfl)) ?_; (with_reducible refine (turnspitref11_in.calls k1 _ _ ((rd_T52 l0 (rd l1 x7_1)).f0) a2 true _ ?side1 ?side2 A8.out).mono ?_); (case side1 => repeat (first | exact HR175_0.out | (with_reducible refine Kd.C_alloc ?_ _) | (with_reducible refine Kd.C_drewN ?_ _) | (with_reducible refine Kd.C_drew ?_))); (case side2 => exact HC175_0.out); rintro e w' ⟨rfl, ⟨nd, rfl⟩⟩; refine ⟨_, rfl, ?_⟩; have p177 : 0 ≤ (x7_1 : Int) := of_decide_eq_true (by first | (with_reducible assumption) | assumption); have q177 : x7_1 < (l1.length : Int) := of_decide_eq_true (by first | (with_reducible assumption) | assumption); obtain ⟨ad177, e177, hx177_0⟩ := Kd.at_int HR1.out x7_1 p177 q177; obtain rfl : ad174 = ad177 := (by injection e177); replace p177 := eq_true p177; replace q177 := eq_true q177))
                go_ret
                exact ⟨by first | rfl | (simp; done) | (simp [*]; done), by repeat (first | exact Drawn0.refl _ | apply Drawn0.step)⟩
              · replace c9 := Bool.eq_false_iff.mpr c9
                subst c9
                have H1 : (turnspitref11_holder.l0 k1 l0 l1 a2 (wrap64 (x7_1 + 1))) = some r := by first | (rw [if_neg (show ¬ (false = true) by decide)] at H; exact H) | (rw [if_neg (fun h => h)] at H; exact H)
                clear H
                have H := H1
                clear H1
                have H' := Aside0.mk H
                clear H
                have p174 : 0 ≤ (x7_1 : Int) := of_decide_eq_true (by first | (with_reducible assumption) | assumption)
                have q174 : x7_1 < (l1.length : Int) := of_decide_eq_true (by first | (with_reducible assumption) | assumption)
                obtain ⟨ad174, e174, hx174_0⟩ := Kd.at_int HR1.out x7_1 p174 q174
                cases e174
                replace p174 := eq_true p174
                replace q174 := eq_true q174
                have p175 : 0 ≤ ((rd l1 x7_1) : Int) := of_decide_eq_true (by first | (with_reducible assumption) | assumption)
                have q175 : (rd l1 x7_1) < (l0.length : Int) := of_decide_eq_true (by first | (with_reducible assumption) | assumption)
                obtain ⟨ad175, A175_0, c175_0, e175, hx175_0, hx175_1, hl175_0, hi175_0⟩ := at_T52 HR0.out (rd l1 x7_1) p175 q175
                cases e175
                have HR175_0 := Aside0.mk hi175_0
                have HC175_0 := Aside0.mk hl175_0
                clear hi175_0 hl175_0
                replace p175 := eq_true p175
                replace q175 := eq_true q175
                go_wp2_with (first | ((with_reducible refine gate_callee (f := 33) rfl ?_); refine goesL_ (some 23) rfl rfl Try.func33 (by kernel_rfl) rfl #[.slice A175_0 ((rd_T52 l0 (rd l1 x7_1)).f0).length c175_0, .int .i64 a2] rfl (by (try simp only [List.map_toArray, List.map_cons, List.map_nil]); first | done | rfl | (simp only [List.length_drop, List.length_take]; rfl)) ?_; (with_reducible refine (turnspitref11_in.calls k1 _ _ ((rd_T52 l0 (rd l1 x7_1)).f0) a2 false _ ?side1 ?side2 A8.out).mono ?_); (case side1 => repeat (first | exact HR175_0.out | (with_reducible refine Kd.C_alloc ?_ _) | (with_reducible refine Kd.C_drewN ?_ _) | (with_reducible refine Kd.C_drew ?_))); (case side2 => exact HC175_0.out); rintro e w' ⟨rfl, ⟨nd, rfl⟩⟩; refine ⟨_, rfl, ?_⟩))
                go_roundg k1
                case measure => have := HK1.out; omega
                case rel => exact ⟨(wrap64 (x7_1 + 1)), (by first | rfl | (simp; done) | (simp [*]; done)), H', ⟨by have := HK1.out; omega⟩, by repeat (first | exact Drawn0.refl _ | apply Drawn0.step)⟩
            · rw [if_neg c7] at H
              exact absurd H (by simp)
          · rw [if_neg c6] at H
            exact absurd H (by simp)
        · rw [if_neg c5] at H
          exact absurd H (by simp)
      · rw [if_neg c4] at H
        have c4b0 : decide (x7_1 < (l1.length : Int)) = false := decide_eq_false c4
        clear c4
        obtain rfl := Option.some.inj H
        go_wp2
        go_ret
        exact ⟨by first | rfl | (simp; done) | (simp [*]; done), by repeat (first | exact Drawn0.refl _ | apply Drawn0.step)⟩

end Go.Proofs.Ytiidjnnagbfokaa.QLocksStuck
