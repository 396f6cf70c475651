/- Go functions of the program, each as a function of Lean with the proof that the Go text comes to its answers; no condition. Written by a program of this session. -/
import Derived.Test.YtiidjnnagbfokaaQLocksEndsx0
import Derived.Test.YtiidjnnagbfokaaQLocksEndsx1
import Derived.Test.YtiidjnnagbfokaaQLocksEndsx3
namespace Go.Proofs.Ytiidjnnagbfokaa.QLocksEnds
open Go.RowKit Go.Proofs.YtiidjnnagbfokaaW.PrintWords Go.Proofs.YtiidjnnagbfokaaW.PrintLast Go.Proofs.YtiidjnnagbfokaaW.PrintMore
attribute [local go_sem] max2_int min2_int max_two min_two max_three min_three max_four min_four   -- for this text's walks alone
set_option linter.unusedVariables false
set_option linter.unusedSimpArgs false

/-! ### turnspitlaw11_awake: function 10 -/
open Go.Proofs.Ytiidjnnagbfokaa.Lk
section
variable {P : Program} {ops : Array Oper} {rest : List Oper} {o : Oper} {a : Act} {Q : Exit → Act → World → Prop}
theorem C_lit_ {α : Type} (d : Kd α) {W : World} (e : Nat) (hgd : o.guard = none) {N : Tmp} (hd : o.dst = some N) {xs : List α} {inner : List Value}
    (hrun : (execOp a.eval o).run P W = .ok (.value (.slice (some ⟨W.heap.size, 0, none⟩) xs.length xs.length)) (W.alloc (.cells inner.toArray e)))
    (hrep : Reps (d.K W) d.sz xs inner) (hm : xs.length ≤ 9223372036854775807)
    (h : ∀ A c w1, d.C w1 A xs.length xs → xs.length ≤ c → Below W.heap.size W w1 → wpList P ops Q rest (a.put o.dst (.slice A xs.length c)) w1) : wpList P ops Q (o :: rest) a W := by
  refine Kd.R_lit (Kd.raw d.sz) (w0 := W) W.heap.size e hgd hd (xs := Kd.chunks d.sz xs.length inner) (inner := inner) (ok := fun _ => True) (okp := fun _ => False) (by rw [Kd.chunks_length]; exact hrun) (Kd.reps_raw hrep (fun y c hk => ⟨d.K_len hk, d.K_one hk⟩)) (fun _ hk => hk.elim) trivial (Below.refl _ _) (Nat.le_refl _) (by rw [Kd.chunks_length]; exact hm) ?_
  intro v1 w1 hR hB _ _
  obtain ⟨A, c, rfl⟩ := Kd.R_slice hR
  obtain ⟨_, hle, hC⟩ := Kd.R_reads' hR
  rw [Kd.chunks_length] at hle hC ⊢
  refine h A c w1 ⟨rfl, hm, fun hn => ?_⟩ hle hB
  obtain ⟨ad, e1, hc⟩ := hC.2.2 hn
  refine ⟨ad, e1, fun j p hp => ?_⟩
  have hj : j < xs.length := (List.getElem?_eq_some_iff.1 hp).1
  obtain ⟨c1, hl1, hk1, hcc⟩ := hc j _ (Kd.chunks_at hj)
  refine ⟨c1, hl1, ?_, hcc⟩
  rw [hk1.1]
  exact d.K_below hB (hrep.2 j p hp)
end
theorem aw_e1 : locks_Play.f 2 [[(⟨0, 1⟩ : S55)], [(⟨1, 0⟩ : S55)]] true [0, 1, 0, 1] = some ([0, 0], [(⟨[0, 1], -1⟩ : S52), (⟨[], 0⟩ : S52)], [], 0) := by kernel_rfl
theorem aw_e2 : locks_Play.f 2 [[(⟨0, 1⟩ : S55)], [(⟨1, 0⟩ : S55)]] false [0, 1, 0, 1] = some ([0, 1], [(⟨[0], 1⟩ : S52), (⟨[1], 0⟩ : S52)], [], 0) := by kernel_rfl
theorem aw_e3 : locks_Stuck.f [(⟨[0, 1], -1⟩ : S52), (⟨[], 0⟩ : S52)] = some ([], 0) := by kernel_rfl
theorem aw_e4 : locks_Stuck.f [(⟨[0], 1⟩ : S52), (⟨[1], 0⟩ : S52)] = some ([0, 1], 0) := by kernel_rfl
theorem aw_e5 : turnspitref04_Ints.f 10 [0, 0] [0, 0] = some true := by kernel_rfl
theorem aw_e6 : turnspitref04_Ints.f 10 [0, 1] [0, 1] = some true := by kernel_rfl
def turnspitlaw11_awake.f : Option Bool := some true
set_option maxHeartbeats 8000000 in
set_option maxRecDepth 100000 in
theorem turnspitlaw11_awake.calls (r : Bool) (w : World) (h : turnspitlaw11_awake.f = some r) :
    Calls Try.prog 10 #[] w fun e w' => e = .returned (.bool r) ∧ Below w.heap.size w w' := by
  obtain rfl := Option.some.inj h
  clear h
  have E1 := Aside0.mk aw_e1
  have E2 := Aside0.mk aw_e2
  have E3 := Aside0.mk aw_e3
  have E4 := Aside0.mk aw_e4
  have E5 := Aside0.mk aw_e5
  have E6 := Aside0.mk aw_e6
  have HB := Aside0.mk (Below.refl w.heap.size w)
  obtain ⟨j0, hj0⟩ : ∃ j, j = [(⟨0, 1⟩ : S55)] := ⟨_, rfl⟩
  obtain ⟨j1, hj1⟩ : ∃ j, j = [(⟨1, 0⟩ : S55)] := ⟨_, rfl⟩
  obtain ⟨js, hjs⟩ : ∃ j, j = [j0, j1] := ⟨_, rfl⟩
  obtain ⟨ps, hps⟩ : ∃ j : List Int, j = [0, 1, 0, 1] := ⟨_, rfl⟩
  obtain ⟨by1, hby1⟩ : ∃ j : List Int, j = [0, 0] := ⟨_, rfl⟩
  obtain ⟨ws1, hws1⟩ : ∃ j, j = [(⟨[0, 1], -1⟩ : S52), (⟨[], 0⟩ : S52)] := ⟨_, rfl⟩
  obtain ⟨dn, hdn⟩ : ∃ j : List Int, j = [] := ⟨_, rfl⟩
  obtain ⟨ws2, hws2⟩ : ∃ j, j = [(⟨[0], 1⟩ : S52), (⟨[1], 0⟩ : S52)] := ⟨_, rfl⟩
  obtain ⟨st2, hst2⟩ : ∃ j : List Int, j = [0, 1] := ⟨_, rfl⟩
  rw [← hj0, ← hj1, ← hjs, ← hps, ← hby1, ← hws1, ← hdn] at E1
  rw [← hj0, ← hj1, ← hjs, ← hps, ← hst2, ← hws2, ← hdn] at E2
  rw [← hws1, ← hdn] at E3
  rw [← hws2, ← hst2] at E4
  rw [← hby1] at E5
  rw [← hst2] at E6
  have l1 : ((ws1.length : Int) == 2) = true := by rw [hws1]; rfl
  have l2 : ((dn.length : Int) == 0) = true := by rw [hdn]; rfl
  have k1 : (rd_T52 ws1 0).f1 = -1 := by rw [hws1]; rfl
  have k2 : (rd_T52 ws1 1).f1 = 0 := by rw [hws1]; rfl
  have k3 : ws1.length = 2 := by rw [hws1]; rfl
  have K1 := Aside0.mk k1
  have K2 := Aside0.mk k2
  have K3 := Aside0.mk k3
  have Hj0 := Aside0.mk hj0
  have Hj1 := Aside0.mk hj1
  have Hjs := Aside0.mk hjs
  have Hps := Aside0.mk hps
  have Hby := Aside0.mk hby1
  have Hst := Aside0.mk hst2
  clear hj0 hj1 hjs hps hby1 hws1 hdn hws2 hst2 k1 k2 k3
  go_enter Try.func10, Try.ntmps10
  go_upto_region 2 with (first
    | ((with_reducible refine gate_dst (N := 17) rfl ?_); refine C_lit_ k55 55 ?hg (N := 17) ?hd (xs := ([(⟨0, 1⟩ : S55)] : List (S55))) (inner := [.int .i64 0, .int .i64 1]) ?hr ?hp (by simp) ?_; (case hd => rfl); (case hg => rfl); (case hr => first | (go_simp; done) | (go_simp; rfl)); (case hp => exact (Reps.c2 (show Kd.K k55 _ (⟨0, 1⟩ : S55) [.int .i64 0, .int .i64 1] from (k55_mk _ (⟨0, 1⟩ : S55) )) (Reps.none _ _))); rw [← Hj0.out]; intro A0 c0 w1 hC hc hb; have C0 := Aside0.mk hC; have LC0 := Aside0.mk hc; have HB1 := Aside0.mk (below_step HB.out hb); clear hC hc hb)
    | ((with_reducible refine gate_dst (N := 19) rfl ?_); refine C_lit_ k55 55 ?hg (N := 19) ?hd (xs := ([(⟨1, 0⟩ : S55)] : List (S55))) (inner := [.int .i64 1, .int .i64 0]) ?hr ?hp (by simp) ?_; (case hd => rfl); (case hg => rfl); (case hr => first | (go_simp; done) | (go_simp; rfl)); (case hp => exact (Reps.c2 (show Kd.K k55 _ (⟨1, 0⟩ : S55) [.int .i64 1, .int .i64 0] from (k55_mk _ (⟨1, 0⟩ : S55) )) (Reps.none _ _))); rw [← Hj1.out]; intro A1 c1 w2 hC hc hb; have C1 := Aside0.mk hC; have LC1 := Aside0.mk hc; have C0' := Aside0.mk (Kd.C_below C0.out hb); have HB2 := Aside0.mk (below_step HB1.out hb); clear hC hc hb)
    | ((with_reducible refine gate_dst (N := 20) rfl ?_); refine C_lit_ (Kd.slice 55 k55) 41 ?hg (N := 20) ?hd (xs := ([j0, j1] : List (List S55))) (inner := [.slice A0 j0.length c0, .slice A1 j1.length c1]) ?hr ?hp (by simp) ?_; (case hd => rfl); (case hg => rfl); (case hr => first | (go_simp; done) | (go_simp; rfl)); (case hp => exact Reps.one (show (Kd.slice 55 k55).K _ j0 [.slice A0 j0.length c0] from ⟨_, _, rfl, LC0.out, C0'.out⟩) (Reps.one (show (Kd.slice 55 k55).K _ j1 [.slice A1 j1.length c1] from ⟨_, _, rfl, LC1.out, C1.out⟩) (Reps.none _ _))); rw [← Hjs.out]; intro A2 c2 w3 hC hc hb; have CJ := Aside0.mk hC; have LCJ := Aside0.mk hc; have HB3 := Aside0.mk (below_step HB2.out hb); clear hC hc hb))
  clear HB HB1 HB2 C0 C1 C0' LC0 LC1 Hj0 Hj1
  go_upto_region 3 with (first
    | ((with_reducible refine gate_dst (N := 23) rfl ?_); refine C_lit_ (Kd.int .i64) 3 ?hg (N := 23) ?hd (xs := ([0, 1, 0, 1] : List Int)) (inner := [.int .i64 0, .int .i64 1, .int .i64 0, .int .i64 1]) ?hr ?hp (by simp) ?_; (case hd => rfl); (case hg => rfl); (case hr => first | (go_simp; done) | (go_simp; rfl)); (case hp => exact (Reps.one (show (Kd.int .i64).K _ 0 [.int .i64 0] from rfl) (Reps.one (show (Kd.int .i64).K _ 1 [.int .i64 1] from rfl) (Reps.one (show (Kd.int .i64).K _ 0 [.int .i64 0] from rfl) (Reps.one (show (Kd.int .i64).K _ 1 [.int .i64 1] from rfl) (Reps.none _ _)))))); rw [← Hps.out]; intro A3 c3 w4 hC hc hb; have CP := Aside0.mk hC; have LCP := Aside0.mk hc; have CJ4 := Aside0.mk (Kd.C_below CJ.out hb); have HB4 := Aside0.mk (below_step HB3.out hb); clear hC hc hb)
    | (go_at_call 23; (with_reducible refine (locks_Play.calls 2 A2 c2 js true A3 c3 ps by1 ws1 dn 0 _ CJ4.out LCJ.out CP.out LCP.out E1.out).mono ?_); rintro e w5 ⟨v0, v1, v2, rfl, hR0, hS1, hR2, hb⟩; obtain ⟨Ab, cb, rfl⟩ := Kd.R_slice hR0; obtain ⟨Aw, cw, rfl⟩ := Kd.R_slice (Kd.S_R hS1); obtain ⟨Ad, cd, rfl⟩ := Kd.R_slice hR2; have C5b := Aside0.mk (Kd.R_reads' hR0).2; have C5w := Aside0.mk (Kd.R_reads' (Kd.S_R hS1)).2; have CJ5 := Aside0.mk (Kd.C_below CJ4.out hb); have HB5 := Aside0.mk (below_step HB4.out hb); clear hR0 hS1 hR2 hb)
    | ((with_reducible refine gate_dst (N := 2) rfl ?_); refine box_event ?hg (N := 2) ?hd (cs := #[.slice none 0 0]) (t := 24) ?hr ?_; (case hd => rfl); (case hg => rfl); (case hr => first | (go_simp; done) | (go_simp; rfl)); intro gb hg w6 hbox hb; have HG := Aside0.mk (Nat.le_of_eq hg.symm); have HBX := Aside0.mk hbox; have HB56 := Aside0.mk hb; have hcz := (blk_cell HBX.out 0).trans rfl; have hfz := blk_frozen HBX.out 0; clear hg hbox hb))
  have D7 := HB56.out.setCell (p := ⟨gb, 0, none⟩) HG.out (.slice Ab by1.length cb)
  have BK7 := blk_set HBX.out 0 (.slice Ab by1.length cb)
  generalize hw7 : w6.setCell ⟨gb, 0, none⟩ (.slice Ab by1.length cb) = w7 at D7 BK7 ⊢
  have C7b := Aside0.mk (Kd.C_below C5b.out.2 D7)
  have C7w := Aside0.mk (Kd.C_below C5w.out.2 D7)
  have CJ7 := Aside0.mk (Kd.C_below CJ5.out D7)
  have HB7 := Aside0.mk (below_step HB5.out D7)
  have LCb := Aside0.mk C5b.out.1
  have LCw := Aside0.mk C5w.out.1
  have B7 := Aside0.mk BK7
  clear hw7 D7 BK7 C5b C5w CJ5 HB5 HB56 HBX HG hcz hfz CJ4 CJ HB3 HB4 CP LCP
  go_upto_region 4 with (first
    | ((with_reducible refine gate_dst (N := 31) rfl ?_); refine C_lit_ (Kd.int .i64) 3 ?hg (N := 31) ?hd (xs := ([0, 1, 0, 1] : List Int)) (inner := [.int .i64 0, .int .i64 1, .int .i64 0, .int .i64 1]) ?hr ?hp (by simp) ?_; (case hd => rfl); (case hg => rfl); (case hr => first | (go_simp; done) | (go_simp; rfl)); (case hp => exact (Reps.one (show (Kd.int .i64).K _ 0 [.int .i64 0] from rfl) (Reps.one (show (Kd.int .i64).K _ 1 [.int .i64 1] from rfl) (Reps.one (show (Kd.int .i64).K _ 0 [.int .i64 0] from rfl) (Reps.one (show (Kd.int .i64).K _ 1 [.int .i64 1] from rfl) (Reps.none _ _)))))); rw [← Hps.out]; intro A4 c4 w8 hC hc hb; have CP := Aside0.mk hC; have LCP := Aside0.mk hc; have CJ8 := Aside0.mk (Kd.C_below CJ7.out hb); have C8b := Aside0.mk (Kd.C_below C7b.out hb); have C8w := Aside0.mk (Kd.C_below C7w.out hb); have B8 := Aside0.mk (blk_below B7.out hb); have HB8 := Aside0.mk (below_step HB7.out hb); clear hC hc hb)
    | (go_at_call 23; (with_reducible refine (locks_Play.calls 2 A2 c2 js false A4 c4 ps st2 ws2 dn 0 _ CJ8.out LCJ.out CP.out LCP.out E2.out).mono ?_); rintro e w9 ⟨v0, v1, v2, rfl, hR0, hS1, hR2, hb⟩; obtain ⟨Ab2, cb2, rfl⟩ := Kd.R_slice hR0; obtain ⟨Aw2, cw2, rfl⟩ := Kd.R_slice (Kd.S_R hS1); obtain ⟨Ad2, cd2, rfl⟩ := Kd.R_slice hR2; have C9v := Aside0.mk (Kd.R_reads' (Kd.S_R hS1)).2; have C9b := Aside0.mk (Kd.C_below C8b.out hb); have C9w := Aside0.mk (Kd.C_below C8w.out hb); have B9 := Aside0.mk (blk_below B8.out hb); have HB9 := Aside0.mk (below_step HB8.out hb); clear hR0 hS1 hR2 hb)
    | ((with_reducible refine gate_dst (N := 6) rfl ?_); refine box_event ?hg (N := 6) ?hd (cs := #[.slice none 0 0]) (t := 24) ?hr ?_; (case hd => rfl); (case hg => rfl); (case hr => first | (go_simp; done) | (go_simp; rfl)); intro gc hg w10 hbox hb; have HG := Aside0.mk (Nat.le_of_eq hg.symm); have HBX := Aside0.mk hbox; have HB910 := Aside0.mk hb; have hcz := (blk_cell HBX.out 0).trans rfl; have hfz := blk_frozen HBX.out 0; clear hg hbox hb))
  have D11 := HB910.out.setCell (p := ⟨gc, 0, none⟩) HG.out (.slice Ab2 st2.length cb2)
  generalize hw11 : w10.setCell ⟨gc, 0, none⟩ (.slice Ab2 st2.length cb2) = w11 at D11 ⊢
  have C11b := Aside0.mk (Kd.C_below C9b.out D11)
  have C11w := Aside0.mk (Kd.C_below C9w.out D11)
  have C11v := Aside0.mk (Kd.C_below C9v.out.2 D11)
  have LCv := Aside0.mk C9v.out.1
  have B11 := Aside0.mk (blk_below B9.out D11)
  have HB11 := Aside0.mk (below_step HB9.out D11)
  clear hw11 D11 C9b C9w C9v B9 HB9 HB910 HBX HG hcz hfz C8b C8w B8 HB8 C7b C7w B7 HB7 CJ8 CJ7 CP LCP LCJ E1 E2 Hjs Hps
  go_upto_region 7 with (first
    | (go_at_call 21; (with_reducible refine (locks_Stuck.calls Aw cw ws1 dn 0 _ C11w.out LCw.out E3.out).mono ?_); rintro e w12 ⟨v0, rfl, hR0, hb⟩; obtain ⟨As, cs, rfl⟩ := Kd.R_slice hR0; have C12b := Aside0.mk (Kd.C_below C11b.out hb); have C12w := Aside0.mk (Kd.C_below C11w.out hb); have C12v := Aside0.mk (Kd.C_below C11v.out hb); have B12 := Aside0.mk (blk_below B11.out hb); have HB12 := Aside0.mk (below_step HB11.out hb); clear hR0 hb)
    | (go_at_call 21; (with_reducible refine (locks_Stuck.calls Aw2 cw2 ws2 st2 0 _ C12v.out LCv.out E4.out).mono ?_); rintro e w13 ⟨v0, rfl, hR0, hb⟩; obtain ⟨At, ct, rfl⟩ := Kd.R_slice hR0; have C13t := Aside0.mk (Kd.R_reads' hR0).2.2; have LCt := Aside0.mk (Kd.R_reads' hR0).2.1; have C13b := Aside0.mk (Kd.C_below C12b.out hb); have C13w := Aside0.mk (Kd.C_below C12w.out hb); have B13 := Aside0.mk (blk_below B12.out hb); have HB13 := Aside0.mk (below_step HB12.out hb); clear hR0 hb)
    | (go_at_call 17; (with_reducible refine (locks_Pair.calls 5 3 3 5 _ (by kernel_rfl)).mono ?_); rintro e w14 ⟨rfl, hb⟩; have C14t := Aside0.mk (Kd.C_below C13t.out hb); have C14b := Aside0.mk (Kd.C_below C13b.out hb); have C14w := Aside0.mk (Kd.C_below C13w.out hb); have B14 := Aside0.mk (blk_below B13.out hb); have HB14 := Aside0.mk (below_step HB13.out hb); clear hb))
  clear C11b C11w C11v B11 HB11 C12b C12w C12v B12 HB12 C13t C13b C13w B13 HB13 E3 E4 LCv
  have hcz := (blk_cell B14.out 0).trans rfl
  go_wp2_with (first
    | ((with_reducible refine gate_dst (N := 67) rfl ?_); (try (refine gate_guard (by rfl) ?_; dsimp only)); refine C_lit_ (Kd.int .i64) 3 ?hg (N := 67) ?hd (xs := ([0, 0] : List Int)) (inner := [.int .i64 0, .int .i64 0]) ?hr ?hp (by simp) ?_; (case hd => rfl); (case hg => rfl); (case hr => first | (go_simp; done) | (go_simp; rfl)); (case hp => exact (Reps.one (show (Kd.int .i64).K _ 0 [.int .i64 0] from rfl) (Reps.one (show (Kd.int .i64).K _ 0 [.int .i64 0] from rfl) (Reps.none _ _)))); rw [← Hby.out]; intro A5 c5 w15 hC hc hb; have C15y := Aside0.mk hC; have LC15 := Aside0.mk hc; have C15t := Aside0.mk (Kd.C_below C14t.out hb); have C15b := Aside0.mk (Kd.C_below C14b.out hb); have C15w := Aside0.mk (Kd.C_below C14w.out hb); have HB15 := Aside0.mk (below_step HB14.out hb); clear hC hc hb)
    | (go_at_call 19; (with_reducible refine (turnspitref04_Ints.calls 10 Ab cb by1 A5 c5 by1 true _ C15b.out LCb.out C15y.out LC15.out E5.out).mono ?_); rintro e w16 ⟨rfl, hd⟩; have hb := hd.below; have C16t := Aside0.mk (Kd.C_below C15t.out hb); have C16w := Aside0.mk (Kd.C_below C15w.out hb); have HB16 := Aside0.mk (below_step HB15.out hb); clear hd hb; obtain ⟨ad0, _, _, e0, _, x1, _, _⟩ := at_T52 C16w.out 0 (by omega) (by have := K3.out; omega); obtain ⟨ad1, _, _, e1, _, y1, _, _⟩ := at_T52 C16w.out 1 (by omega) (by have := K3.out; omega); subst e0; obtain rfl := Option.some.inj e1; rw [K1.out] at x1; rw [K2.out] at y1; rw [show ((0 : Int)).toNat * 2 = 0 from rfl, Addr.add_zero'] at x1; simp only [show (1 : Int).toNat = 1 from rfl, Nat.reduceMul, Nat.reduceEqDiff, Go.Addr.add, ↓reduceIte] at y1; have p0 : (0 < ws1.length) = True := eq_true (by have := K3.out; omega); have p1 : (1 < ws1.length) = True := eq_true (by have := K3.out; omega); have p2 : ((0 : Int) < (ws1.length : Int)) = True := eq_true (by have := K3.out; omega); have p3 : ((1 : Int) < (ws1.length : Int)) = True := eq_true (by have := K3.out; omega))
    | ((with_reducible refine gate_dst (N := 100) rfl ?_); (try (refine gate_guard (by rfl) ?_; dsimp only)); refine C_lit_ (Kd.int .i64) 3 ?hg (N := 100) ?hd (xs := ([0, 1] : List Int)) (inner := [.int .i64 0, .int .i64 1]) ?hr ?hp (by simp) ?_; (case hd => rfl); (case hg => rfl); (case hr => first | (go_simp; done) | (go_simp; rfl)); (case hp => exact (Reps.one (show (Kd.int .i64).K _ 0 [.int .i64 0] from rfl) (Reps.one (show (Kd.int .i64).K _ 1 [.int .i64 1] from rfl) (Reps.none _ _)))); rw [← Hst.out]; intro A6 c6 w17 hC hc hb; have C17y := Aside0.mk hC; have LC17 := Aside0.mk hc; have C17t := Aside0.mk (Kd.C_below C16t.out hb); have HB17 := Aside0.mk (below_step HB16.out hb); clear hC hc hb)
    | (go_at_call 19; (with_reducible refine (turnspitref04_Ints.calls 10 At ct st2 A6 c6 st2 true _ C17t.out LCt.out C17y.out LC17.out E6.out).mono ?_); rintro e w18 ⟨rfl, hd⟩; have HB18 := Aside0.mk (below_step HB17.out hd.below); clear hd))
  go_ret
  exact ⟨rfl, HB18.out⟩


/-! ### turnspitlaw11_Jobs: function 26 -/
theorem cell_kept4_ {w w1 : World} {p : Addr} {v : Value} (h : Below w.heap.size w w1) (hc : w.cell? p = some v) : w1.cell? p = some v := by
  have hp : p.block < w.heap.size := by
    apply Classical.byContradiction
    intro hn
    have : w.heap[p.block]? = none := Array.getElem?_eq_none (by omega)
    simp [World.cell?, this] at hc
  rw [h.cell hp]
  exact hc
def manyP (l : List Int) : Int := if 0 < l.length then 2 + (rd l 0) % 4 else 2
def secP (x : Int) : S55 := ⟨x % 6, x / 6 % 6⟩
def jobP (m : Int) (rows : List (List S55)) (x : Int) : List (List S55) := rows.set (x / 36 % m).toNat (rows.getD (x / 36 % m).toNat [] ++ [secP x])
def jobsP (l : List Int) : List (List S55) := ((l.drop 1).take 19).foldl (jobP (manyP l)) (List.replicate (manyP l).toNat [])
def u16s (l : List Int) : Bool := l.all fun x => decide (0 ≤ x ∧ x < 65536)
def turnspitlaw11_Jobs.f (l0 : List Int) : Option (List (List S55)) := if u16s l0 = true then some (jobsP l0) else none
theorem u16s_get {l : List Int} (h : u16s l = true) (i : Nat) (hi : i < l.length) : 0 ≤ l.getD i 0 ∧ l.getD i 0 < 65536 := by
  have := List.all_eq_true.1 h (l.getD i 0) (by rw [List.getD_eq_getElem?_getD, List.getElem?_eq_getElem hi]; exact List.getElem_mem hi)
  simpa using this
theorem litC_ (w : World) (p : S55) : Kd.C k55 (w.alloc (.cells #[.int .i64 p.f0, .int .i64 p.f1] 55)) (some ⟨w.heap.size, 0, none⟩) 1 [p] := by
  refine ⟨rfl, by omega, fun _ => ⟨_, rfl, fun j q hq => ?_⟩⟩
  cases j with
  | succ j => simp at hq
  | zero =>
    obtain rfl : p = q := by simpa using hq
    refine ⟨[.int .i64 p.f0, .int .i64 p.f1], rfl, k55_mk _ p, fun i u hu => ?_⟩
    match i, hu with
    | 0, hu => simp at hu; subst hu; exact (blk_cell (blk_new w _) 0).trans rfl
    | 1, hu => simp at hu; subst hu; exact (blk_cell (blk_new w _) 1).trans rfl
    | i + 2, hu => simp at hu
theorem inf55_ : (Try.prog.info? 55).map (fun i => (i.zero, i.size, i.bytes)) = some (some (.agg #[(.int .i64 0), (.int .i64 0)]), 2, 16) := by kernel_rfl
theorem inf41_ : (Try.prog.info? 41).map (fun i => (i.zero, i.size, i.bytes)) = some (some (.slice none 0 0), 1, 24) := by kernel_rfl
set_option maxHeartbeats 8000000 in
set_option maxRecDepth 100000 in
theorem turnspitlaw11_Jobs.calls (A0 : Option Addr) (c0 : Nat) (l0 : List Int) (r : List (List S55)) (w : World) (hr0 : Kd.C (Kd.int .u16) w A0 l0.length l0) (hc0 : l0.length ≤ c0) (h : turnspitlaw11_Jobs.f l0 = some r) :
    Calls Try.prog 26 #[.slice A0 l0.length c0] w fun e w' => ∃ v0_ : Value, e = .returned v0_ ∧ Kd.N (Kd.slice 55 k55) 41 w' w.heap.size (fun k_ => True ∧ w.heap.size ≤ k_ ∧ True) v0_ r ∧ Below w.heap.size w w' := by
  unfold turnspitlaw11_Jobs.f at h
  by_cases c : u16s l0 = true
  case neg => rw [if_neg c] at h; cases h
  rw [if_pos c] at h
  replace h := Option.some.inj h
  have HU := Aside0.mk c
  have HR := Aside0.mk h
  have H0 := Aside0.mk hr0
  clear c h hr0
  by_cases hl : 0 < l0.length
  · obtain ⟨ad, cs, e0, _, hK, hcc⟩ := Kd.C_get H0.out 0 0 (by omega) (by omega)
    subst e0
    have b0 := u16s_get HU.out 0 hl
    have hx0 : w.cell? ad = some (.int .u16 (l0.getD 0 0)) := by
      have := hcc 0 (.int .u16 (l0.getD 0 0)) (by rw [show cs = [.int .u16 (l0.getD 0 0)] from hK]; rfl)
      simpa [Addr.add] using this
    obtain ⟨x0, hx⟩ : ∃ x, x = l0.getD 0 0 := ⟨_, rfl⟩
    rw [← hx] at hx0 b0
    have HX := Aside0.mk hx
    clear hK hcc hx
    have q1 : decide ((0 : Int) < (l0.length : Int)) = true := decide_eq_true (by omega)
    have q2 : ((0 : Int) < (l0.length : Int)) = True := eq_true (by omega)
    go_enter Try.func26, Try.ntmps26
    have hm : 2 ≤ 2 + x0 % 4 ∧ 2 + x0 % 4 ≤ 5 := by omega
    have HMV : Aside0 (manyP l0 = 2 + x0 % 4) := ⟨by unfold manyP; rw [if_pos hl]; unfold rd; rw [HX.out]; rfl⟩
    have H00 := H0
    go_upto_region 4 with (fail)
    generalize 2 + x0 % 4 = m at hm HMV ⊢
    clear hx0 b0
    go_upto_region 5 with (first | ((with_reducible refine gate_dst (N := 17) rfl ?_); refine Kd.N_make (Kd.slice 55 k55) (w0 := w) w.heap.size 41 rfl (N' := 17) rfl 38 (.tmp 16) (.tmp 16) rfl m rfl rfl Try.underlying38 (.slice none 0 0) 24 inf41_ rfl (by decide) (by omega) [] (okp := fun _ => False) (ok := fun k_ => True ∧ w.heap.size ≤ k_ ∧ True) (Kd.FK_slice_mk (Nat.le_refl _) (Kd.F_nil _ _ _)) (fun _ h => h.elim) ⟨trivial, Nat.le_refl _, trivial⟩ (by omega) (by omega) (Below.refl _ _) (Nat.le_refl _) ?_; intro v1 w1 hN hb _ _; have HN1 := Aside0.mk hN; have HB1 := Aside0.mk hb; clear hN hb))
    obtain ⟨g, cap, rfl, hgb, hglt, _⟩ := Kd.N_form HN1.out (by rw [List.length_replicate]; omega)
    have hM0 : (List.replicate m.toNat ([] : List S55)).length = m.toNat := List.length_replicate
    generalize hM : (List.replicate m.toNat ([] : List S55)).length = M at HN1 hM0 ⊢
    clear hM hglt
    have HGB := Aside0.mk hgb
    have HM := Aside0.mk hM0
    clear hgb hM0
    go_wp2
    go_loopw [5] (fun v5 wr => ∃ (i : Nat) (rows : List (List S55)), 1 ≤ i ∧ i ≤ 20 ∧ v5 = .int .i64 (i : Int) ∧ Aside0 (Kd.N (Kd.slice 55 k55) 41 wr w.heap.size (fun k_ => True ∧ w.heap.size ≤ k_ ∧ True) (.slice (some ⟨g, 0, none⟩) M cap) rows) ∧ Aside0 (rows = ((l0.drop 1).take (i - 1)).foldl (jobP m) (List.replicate m.toNat [])) ∧ Aside0 (∀ row ∈ rows, row.length ≤ i) ∧ Aside0 (Below w.heap.size w wr)) (fun v5 _ => 20 - (intOf v5).toNat)
    case atStart => exact ⟨1, _, Nat.le_refl _, by omega, rfl, HN1, ⟨by simp⟩, ⟨fun row hr => by rw [List.eq_of_mem_replicate hr]; exact Nat.zero_le _⟩, HB1⟩
    case round =>
      clear HN1 HB1
      obtain ⟨i, rows, hi1, hi20, rfl, HN, HROWS, HLEN, HB⟩ := hrel
      by_cases hlt : i < l0.length ∧ i < 20
      · obtain ⟨hil, hi2⟩ := hlt
        have q3 : ((i : Int) < (l0.length : Int)) = True := eq_true (by omega)
        have q4 : decide ((i : Int) < (l0.length : Int)) = true := decide_eq_true (by omega)
        have q5 : decide ((i : Int) < 20) = true := decide_eq_true (by omega)
        obtain ⟨ad', cs', e1, _, hK, hcc⟩ := Kd.C_get H00.out 0 (i : Int) (by omega) (by omega)
        obtain rfl : ad = ad' := by injection e1
        have bi := u16s_get HU.out i hil
        have hxi : wr.cell? (ad.add i) = some (.int .u16 (l0.getD i 0)) := by
          have := hcc 0 (.int .u16 (l0.getD i 0)) (by rw [show cs' = [.int .u16 (l0.getD ((i : Int)).toNat 0)] from hK, Int.toNat_natCast]; rfl)
          rw [Int.toNat_natCast] at this
          exact cell_kept4_ HB.out (by simpa [Kd.int, Kd.scalar] using this)
        have hstep : ((l0.drop 1).take (i + 1 - 1)).foldl (jobP m) (List.replicate m.toNat []) = jobP m rows (l0.getD i 0) := by
          rw [HROWS.out, show i + 1 - 1 = (i - 1) + 1 by omega, List.take_add_one, List.foldl_append]
          rw [List.getElem?_drop, show 1 + (i - 1) = i by omega, List.getElem?_eq_getElem hil, List.getD_eq_getElem?_getD, List.getElem?_eq_getElem hil]
          rfl
        have HSTEP := Aside0.mk hstep
        generalize l0.getD i 0 = x at bi hxi HSTEP
        clear hK hcc e1 hstep
        go_upto_region 9 with (fail)
        have hq : 0 ≤ x / 36 % m ∧ x / 36 % m < m := ⟨Int.emod_nonneg _ (by omega), Int.emod_lt_of_pos _ (by omega)⟩
        have HST2 : Aside0 (((l0.drop 1).take (i + 1 - 1)).foldl (jobP m) (List.replicate m.toNat []) = rows.set (x / 36 % m).toNat (rows.getD (x / 36 % m).toNat [] ++ [(⟨x % 6, x / 6 % 6⟩ : S55)])) := HSTEP
        generalize x / 36 % m = q at hq HST2 ⊢
        obtain ⟨kk, rfl⟩ : ∃ kk : Nat, q = kk := ⟨q.toNat, by omega⟩
        rw [Int.toNat_natCast] at HST2
        have hkM : kk < M := by have := HM.out; omega
        have hrl : rows.length = M := (Kd.N_reads' HN.out).1.symm
        obtain ⟨co0, _, hFK, hco⟩ := Kd.N_get HN.out ([] : List S55) (kk : Int) (by omega) (by omega)
        obtain ⟨Ao, co, rfl, hlo, hFo⟩ := Kd.FK_slice_open hFK
        rw [Int.toNat_natCast] at hlo hFo hFK hco
        have hcg0 : wr.cell? ⟨g, kk, none⟩ = some (.slice Ao (rows.getD kk []).length co) := by
          have := hco 0 _ rfl
          simpa [Kd.slice, Addr.add_lit] using this
        have HOL : Aside0 ((rows.getD kk []).length ≤ i) := ⟨by
          rw [List.getD_eq_getElem?_getD, List.getElem?_eq_getElem (by omega)]
          have := HLEN.out rows[kk] (List.getElem_mem (by omega))
          exact this⟩
        have HOLD := Aside0.mk (Kd.F_now hFo)
        have HLO := Aside0.mk hlo
        have HGR := Aside0.mk (show g < wr.heap.size from Kd.N_lt HN.out g rfl)
        generalize hold : rows.getD kk [] = old at HST2 HOLD HOL HLO hcg0
        have HCG := Aside0.mk hcg0
        have HXC := Aside0.mk hxi
        have p1 : 0 ≤ (kk : Int) := by omega
        have p2 : (kk : Int) < (M : Int) := by omega
        have p3 : (kk < M) = True := eq_true hkM
        have p4 : ((kk : Int) < (M : Int)) = True := eq_true p2
        clear hq hFK hco hFo hlo hold HSTEP
        refine start_ (n := 25) (S := fun w' => w'.cell? (ad.add i) = some (.int .u16 x) ∧ w'.cell? ⟨g, kk, none⟩ = some (.slice Ao old.length co) ∧ Below wr.heap.size wr w') (ds := [24]) #[false, false, false, false, false, false, false, false, false, false, false, false, false, false, false, false, false, false, false, false, false, false, false, false, false] (by kernel_rfl) rfl rfl ⟨cell_kept4_ (below_drew (Below.refl _ _)) HXC.out, cell_kept4_ (below_drew (Below.refl _ _)) HCG.out, (below_drew (Below.refl _ _))⟩ (fun hHeld => ?_)
        refine pure_ (i := 0) (N := some 36) (v := ?_) (a' := ?_) #[true, false, false, false, false, false, false, false, false, false, false, false, false, false, false, false, false, false, false, false, false, false, false, false, false] rfl rfl (by kernel_rfl) (fun _ _ _ h => h) (Or.inl ⟨by rfl, ?_⟩) ?_ ?_
        rotate_left
        · intro w'
          go_simp
          with_reducible rfl
        rotate_left
        · simp only [Act.put, List.setIfInBounds_toArray, List.set_cons_zero, List.set_cons_succ, i64_w, i32_w]
          rfl
        refine pure_ (i := 1) (N := some 37) (v := ?_) (a' := ?_) #[true, true, false, false, false, false, false, false, false, false, false, false, false, false, false, false, false, false, false, false, false, false, false, false, false] rfl rfl (by kernel_rfl) (fun _ _ _ h => h) (Or.inl ⟨by rfl, ?_⟩) ?_ ?_
        rotate_left
        · intro w'
          go_simp
          with_reducible rfl
        rotate_left
        · simp only [Act.put, List.setIfInBounds_toArray, List.set_cons_zero, List.set_cons_succ, i64_w, i32_w]
          rfl
        refine pure_ (i := 2) (N := some 38) (v := ?_) (a' := ?_) #[true, true, true, false, false, false, false, false, false, false, false, false, false, false, false, false, false, false, false, false, false, false, false, false, false] rfl rfl (by kernel_rfl) (fun _ _ _ h => h) (Or.inl ⟨by rfl, ?_⟩) ?_ ?_
        rotate_left
        · intro w'
          go_simp
          with_reducible rfl
        rotate_left
        · simp only [Act.put, List.setIfInBounds_toArray, List.set_cons_zero, List.set_cons_succ, i64_w, i32_w]
          rfl
        refine pure_ (i := 3) (N := some 39) (v := ?_) (a' := ?_) #[true, true, true, true, false, false, false, false, false, false, false, false, false, false, false, false, false, false, false, false, false, false, false, false, false] rfl rfl (by kernel_rfl) (fun _ _ _ h => h) (Or.inl ⟨by rfl, ?_⟩) ?_ ?_
        rotate_left
        · intro w'
          go_simp
          with_reducible rfl
        rotate_left
        · simp only [Act.put, List.setIfInBounds_toArray, List.set_cons_zero, List.set_cons_succ, i64_w, i32_w]
          rfl
        refine pure_ (i := 4) (N := some 40) (v := ?_) (a' := ?_) #[true, true, true, true, true, false, false, false, false, false, false, false, false, false, false, false, false, false, false, false, false, false, false, false, false] rfl rfl (by kernel_rfl) (fun _ _ _ h => h) (Or.inl ⟨by rfl, ?_⟩) ?_ ?_
        rotate_left
        · intro w'
          go_simp
          with_reducible rfl
        rotate_left
        · simp only [Act.put, List.setIfInBounds_toArray, List.set_cons_zero, List.set_cons_succ, i64_w, i32_w]
          rfl
        refine pure_ (i := 7) (N := some 43) (v := ?_) (a' := ?_) #[true, true, true, true, true, false, false, true, false, false, false, false, false, false, false, false, false, false, false, false, false, false, false, false, false] rfl rfl (by kernel_rfl) (fun _ _ _ h => h) (Or.inl ⟨by rfl, ?_⟩) ?_ ?_
        rotate_left
        · intro w'
          go_simp
          with_reducible rfl
        rotate_left
        · simp only [Act.put, List.setIfInBounds_toArray, List.set_cons_zero, List.set_cons_succ, i64_w, i32_w]
          rfl
        refine pure_ (i := 8) (N := some 44) (v := ?_) (a' := ?_) #[true, true, true, true, true, false, false, true, true, false, false, false, false, false, false, false, false, false, false, false, false, false, false, false, false] rfl rfl (by kernel_rfl) (fun _ _ _ h => h) (Or.inl ⟨by rfl, ?_⟩) ?_ ?_
        rotate_left
        · intro w'
          go_simp
          with_reducible rfl
        rotate_left
        · simp only [Act.put, List.setIfInBounds_toArray, List.set_cons_zero, List.set_cons_succ, i64_w, i32_w]
          rfl
        refine pure_ (i := 9) (N := some 45) (v := ?_) (a' := ?_) #[true, true, true, true, true, false, false, true, true, true, false, false, false, false, false, false, false, false, false, false, false, false, false, false, false] rfl rfl (by kernel_rfl) (fun _ _ _ h => h) (Or.inl ⟨by rfl, ?_⟩) ?_ ?_
        rotate_left
        · intro w'
          go_simp
          with_reducible rfl
        rotate_left
        · simp only [Act.put, List.setIfInBounds_toArray, List.set_cons_zero, List.set_cons_succ, i64_w, i32_w]
          rfl
        refine pure_ (i := 13) (N := some 49) (v := ?_) (a' := ?_) #[true, true, true, true, true, false, false, true, true, true, false, false, false, true, false, false, false, false, false, false, false, false, false, false, false] rfl rfl (by kernel_rfl) (fun _ _ _ h => h) (Or.inl ⟨by rfl, ?_⟩) ?_ ?_
        rotate_left
        · intro w'
          go_simp
          with_reducible rfl
        rotate_left
        · simp only [Act.put, List.setIfInBounds_toArray, List.set_cons_zero, List.set_cons_succ, i64_w, i32_w]
          rfl
        refine pure_ (i := 14) (N := some 50) (v := ?_) (a' := ?_) #[true, true, true, true, true, false, false, true, true, true, false, false, false, true, true, false, false, false, false, false, false, false, false, false, false] rfl rfl (by kernel_rfl) (fun _ _ _ h => h) (Or.inl ⟨by rfl, ?_⟩) ?_ ?_
        rotate_left
        · intro w'
          go_simp
          with_reducible rfl
        rotate_left
        · simp only [Act.put, List.setIfInBounds_toArray, List.set_cons_zero, List.set_cons_succ, i64_w, i32_w]
          rfl
        refine pure_ (i := 15) (N := some 51) (v := ?_) (a' := ?_) #[true, true, true, true, true, false, false, true, true, true, false, false, false, true, true, true, false, false, false, false, false, false, false, false, false] rfl rfl (by kernel_rfl) (fun _ _ _ h => h) (Or.inl ⟨by rfl, ?_⟩) ?_ ?_
        rotate_left
        · intro w'
          go_simp
          with_reducible rfl
        rotate_left
        · simp only [Act.put, List.setIfInBounds_toArray, List.set_cons_zero, List.set_cons_succ, i64_w, i32_w]
          rfl
        refine take_ (i := 5) (N := some 41) (v := ?_) (a' := ?_) #[true, true, true, true, true, true, false, true, true, true, false, false, false, true, true, true, false, false, false, false, false, false, false, false, false] rfl rfl (by kernel_rfl) (fun _ _ _ h => h) (Or.inl ⟨by rfl, ?_⟩) hHeld ?_ ?_
        rotate_left
        · rintro w' ⟨s0, s1, s2⟩
          go_simp
          with_reducible rfl
        rotate_left
        · simp only [Act.put, List.setIfInBounds_toArray, List.set_cons_zero, List.set_cons_succ, i64_w, i32_w]
          rfl
        refine take_ (i := 10) (N := some 46) (v := ?_) (a' := ?_) #[true, true, true, true, true, true, false, true, true, true, true, false, false, true, true, true, false, false, false, false, false, false, false, false, false] rfl rfl (by kernel_rfl) (fun _ _ _ h => h) (Or.inl ⟨by rfl, ?_⟩) hHeld ?_ ?_
        rotate_left
        · rintro w' ⟨s0, s1, s2⟩
          go_simp
          with_reducible rfl
        rotate_left
        · simp only [Act.put, List.setIfInBounds_toArray, List.set_cons_zero, List.set_cons_succ, i64_w, i32_w]
          rfl
        refine pure_ (i := 11) (N := some 47) (v := ?_) (a' := ?_) #[true, true, true, true, true, true, false, true, true, true, true, true, false, true, true, true, false, false, false, false, false, false, false, false, false] rfl rfl (by kernel_rfl) (fun _ _ _ h => h) (Or.inl ⟨by rfl, ?_⟩) ?_ ?_
        rotate_left
        · intro w'
          go_simp
          with_reducible rfl
        rotate_left
        · simp only [Act.put, List.setIfInBounds_toArray, List.set_cons_zero, List.set_cons_succ, i64_w, i32_w]
          rfl
        refine pure_ (i := 12) (N := some 48) (v := ?_) (a' := ?_) #[true, true, true, true, true, true, false, true, true, true, true, true, true, true, true, true, false, false, false, false, false, false, false, false, false] rfl rfl (by kernel_rfl) (fun _ _ _ h => h) (Or.inl ⟨by rfl, ?_⟩) ?_ ?_
        rotate_left
        · intro w'
          go_simp
          with_reducible rfl
        rotate_left
        · simp only [Act.put, List.setIfInBounds_toArray, List.set_cons_zero, List.set_cons_succ, i64_w, i32_w]
          rfl
        refine take_ (i := 16) (N := some 52) (v := ?_) (a' := ?_) #[true, true, true, true, true, true, false, true, true, true, true, true, true, true, true, true, true, false, false, false, false, false, false, false, false] rfl rfl (by kernel_rfl) (fun _ _ _ h => h) (Or.inl ⟨by rfl, ?_⟩) hHeld ?_ ?_
        rotate_left
        · rintro w' ⟨s0, s1, s2⟩
          go_simp
          with_reducible rfl
        rotate_left
        · simp only [Act.put, List.setIfInBounds_toArray, List.set_cons_zero, List.set_cons_succ, i64_w, i32_w]
          rfl
        refine pure_ (i := 17) (N := some 53) (v := ?_) (a' := ?_) #[true, true, true, true, true, true, false, true, true, true, true, true, true, true, true, true, true, true, false, false, false, false, false, false, false] rfl rfl (by kernel_rfl) (fun _ _ _ h => h) (Or.inl ⟨by rfl, ?_⟩) ?_ ?_
        rotate_left
        · intro w'
          go_simp
          with_reducible rfl
        rotate_left
        · simp only [Act.put, List.setIfInBounds_toArray, List.set_cons_zero, List.set_cons_succ, i64_w, i32_w]
          rfl
        refine pure_ (i := 18) (N := some 54) (v := ?_) (a' := ?_) #[true, true, true, true, true, true, false, true, true, true, true, true, true, true, true, true, true, true, true, false, false, false, false, false, false] rfl rfl (by kernel_rfl) (fun _ _ _ h => h) (Or.inl ⟨by rfl, ?_⟩) ?_ ?_
        rotate_left
        · intro w'
          go_simp
          with_reducible rfl
        rotate_left
        · simp only [Act.put, List.setIfInBounds_toArray, List.set_cons_zero, List.set_cons_succ, i64_w, i32_w]
          rfl
        refine pure_ (i := 19) (N := some 55) (v := ?_) (a' := ?_) #[true, true, true, true, true, true, false, true, true, true, true, true, true, true, true, true, true, true, true, true, false, false, false, false, false] rfl rfl (by kernel_rfl) (fun _ _ _ h => h) (Or.inl ⟨by rfl, ?_⟩) ?_ ?_
        rotate_left
        · intro w'
          go_simp
          with_reducible rfl
        rotate_left
        · simp only [Act.put, List.setIfInBounds_toArray, List.set_cons_zero, List.set_cons_succ, i64_w, i32_w]
          rfl
        refine pure_ (i := 20) (N := some 56) (v := ?_) (a' := ?_) #[true, true, true, true, true, true, false, true, true, true, true, true, true, true, true, true, true, true, true, true, true, false, false, false, false] rfl rfl (by kernel_rfl) (fun _ _ _ h => h) (Or.inl ⟨by rfl, ?_⟩) ?_ ?_
        rotate_left
        · intro w'
          go_simp
          with_reducible rfl
        rotate_left
        · simp only [Act.put, List.setIfInBounds_toArray, List.set_cons_zero, List.set_cons_succ, i64_w, i32_w]
          rfl
        refine join_ (σ := (Option Addr × Nat) × Nat) 3 #[true, true, true, true, true, true, true, true, true, true, true, true, true, true, true, true, true, true, true, true, true, true, false, false, false] (fun s_ => [(42, .slice s_.1.1 old.length s_.1.2), (57, .slice (some ⟨s_.2, 0, none⟩) 1 1)]) (fun s_ w' => (w'.cell? (ad.add i) = some (.int .u16 x) ∧ w'.cell? ⟨g, kk, none⟩ = some (.slice Ao old.length co) ∧ Below wr.heap.size wr w') ∧ Kd.R k55 55 w' wr.heap.size (fun _ => True) (.slice s_.1.1 old.length s_.1.2) old ∧ Kd.C k55 w' (some ⟨s_.2, 0, none⟩) 1 [(⟨(wrap64 x).tmod 6, (wrap64 ((wrap64 x).tdiv 6)).tmod 6⟩ : S55)]) ?_ ?_
        rotate_left
        · intro hCont
          refine two_ (i := 6) (j := 21) (Ni := some 42) (Nj := some 57) #[true, true, true, true, true, true, true, true, true, true, true, true, true, true, true, true, true, true, true, true, true, false, false, false, false] #[true, true, true, true, true, true, false, true, true, true, true, true, true, true, true, true, true, true, true, true, true, true, false, false, false] rfl rfl rfl rfl (by kernel_rfl) (by decide) (by decide) (fun K hK => ?_) (fun K hK => ?_)
          · skip
            refine Kd.R_append_rows_step k55 (w0 := _) (Array.size (World.heap _)) (by rfl) (.const (.slice none 0 0)) (.tmp 41) 41 55 (.agg #[.int .i64 0, .int .i64 0]) 16 rfl Try.underlying41 inf55_ rfl (by decide) (by omega) _ [] old Ao old.length co (fun _ => True) (fun _ => False) rfl rfl (Kd.R_nil _ _ _ _ _) (Kd.C_below HOLD.out hHeld.2.2) (fun y cs h => by rw [k55_open h]; exact k55_mkM _ _ _ y) (fun _ h => h.elim) (fun _ _ => trivial) (Below.refl _ _) (Nat.le_refl _) (by have := HOL.out; (try simp only [List.length_nil]); omega) ?_
            intro v3 w3 hR3 hB3 hg3 hat3
            rw [List.nil_append] at hR3
            obtain ⟨A3, c3, rfl⟩ := Kd.R_slice hR3
            have hBn := below_step hHeld.2.2 hB3
            have hR2 := Kd.R_lower hR3 hHeld.2.2.size
            refine hK.out _ _ ⟨cell_kept4_ hBn HXC.out, cell_kept4_ hBn HCG.out, hBn⟩ (fun hHeld => ?_)
            clear hK K
            refine norm_ (a' := ?_) ?_ ?_
            rotate_left
            · show Act.put _ (some 42) _ = _
              simp only [Act.put, List.setIfInBounds_toArray, List.set_cons_zero, List.set_cons_succ, i64_w, i32_w]
              rfl
            refine one_ (i := 21) (N := some 57) #[true, true, true, true, true, true, true, true, true, true, true, true, true, true, true, true, true, true, true, true, true, true, false, false, false] rfl rfl (by kernel_rfl) (by decide) (fun K hK => ?_)
            refine value_ (w1 := ?_) (v := ?_) (by rfl) rfl ?_ ?_
            rotate_left 2
            · go_simp
              constructor
              · rfl
              · rfl
            refine hK.out _ _ ⟨cell_kept4_ (below_alloc hHeld.2.2 _) HXC.out, cell_kept4_ (below_alloc hHeld.2.2 _) HCG.out, (below_alloc hHeld.2.2 _)⟩ (fun hHeld => ?_)
            clear hK K
            refine norm_ (a' := ?_) ?_ ?_
            rotate_left
            · show Act.put _ (some 57) _ = _
              simp only [Act.put, List.setIfInBounds_toArray, List.set_cons_zero, List.set_cons_succ, i64_w, i32_w]
              rfl
            exact norm_ (by simp only [putAll, Act.put, List.setIfInBounds_toArray, List.set_cons_zero, List.set_cons_succ]) (hCont ((A3, c3), w3.heap.size) _ ⟨hHeld, Kd.R_alloc hR2 _, litC_ _ (⟨(wrap64 x).tmod 6, (wrap64 ((wrap64 x).tdiv 6)).tmod 6⟩ : S55)⟩)
          · skip
            refine value_ (w1 := ?_) (v := ?_) (by rfl) rfl ?_ ?_
            rotate_left 2
            · go_simp
              constructor
              · rfl
              · rfl
            refine hK.out _ _ ⟨cell_kept4_ (below_alloc hHeld.2.2 _) HXC.out, cell_kept4_ (below_alloc hHeld.2.2 _) HCG.out, (below_alloc hHeld.2.2 _)⟩ (fun hHeld => ?_)
            clear hK K
            refine norm_ (a' := ?_) ?_ ?_
            rotate_left
            · show Act.put _ (some 57) _ = _
              simp only [Act.put, List.setIfInBounds_toArray, List.set_cons_zero, List.set_cons_succ, i64_w, i32_w]
              rfl
            refine one_ (i := 6) (N := some 42) #[true, true, true, true, true, true, true, true, true, true, true, true, true, true, true, true, true, true, true, true, true, true, false, false, false] rfl rfl (by kernel_rfl) (by decide) (fun K hK => ?_)
            refine Kd.R_append_rows_step k55 (w0 := _) (Array.size (World.heap _)) (by rfl) (.const (.slice none 0 0)) (.tmp 41) 41 55 (.agg #[.int .i64 0, .int .i64 0]) 16 rfl Try.underlying41 inf55_ rfl (by decide) (by omega) _ [] old Ao old.length co (fun _ => True) (fun _ => False) rfl rfl (Kd.R_nil _ _ _ _ _) (Kd.C_below HOLD.out hHeld.2.2) (fun y cs h => by rw [k55_open h]; exact k55_mkM _ _ _ y) (fun _ h => h.elim) (fun _ _ => trivial) (Below.refl _ _) (Nat.le_refl _) (by have := HOL.out; (try simp only [List.length_nil]); omega) ?_
            intro v3 w3 hR3 hB3 hg3 hat3
            rw [List.nil_append] at hR3
            obtain ⟨A3, c3, rfl⟩ := Kd.R_slice hR3
            have hBn := below_step hHeld.2.2 hB3
            have hR2 := Kd.R_lower hR3 hHeld.2.2.size
            refine hK.out _ _ ⟨cell_kept4_ hBn HXC.out, cell_kept4_ hBn HCG.out, hBn⟩ (fun hHeld => ?_)
            clear hK K
            refine norm_ (a' := ?_) ?_ ?_
            rotate_left
            · show Act.put _ (some 42) _ = _
              simp only [Act.put, List.setIfInBounds_toArray, List.set_cons_zero, List.set_cons_succ, i64_w, i32_w]
              rfl
            exact norm_ (by simp only [putAll, Act.put, List.setIfInBounds_toArray, List.set_cons_zero, List.set_cons_succ]) (hCont ((A3, c3), wr.heap.size) _ ⟨hHeld, hR2, Kd.C_below (Kd.C_drew (litC_ wr (⟨(wrap64 x).tmod 6, (wrap64 ((wrap64 x).tdiv 6)).tmod 6⟩ : S55))) hB3⟩)
        rintro ⟨⟨A3, c3⟩, g57⟩ w9 ⟨hHeld, hR3, hC57⟩
        refine norm_ (a' := ?_) ?_ ?_
        rotate_left
        · simp only [putAll, Act.put, List.setIfInBounds_toArray, List.set_cons_zero, List.set_cons_succ]
          rfl
        refine one_ (i := 22) (N := some 58) #[true, true, true, true, true, true, true, true, true, true, true, true, true, true, true, true, true, true, true, true, true, true, true, false, false] rfl rfl (by kernel_rfl) (by decide) (fun K hK => ?_)
        refine Kd.R_append_rows_step k55 (w0 := wr) (wr.heap.size) (by rfl) (.tmp 42) (.tmp 57) 41 55 (.agg #[.int .i64 0, .int .i64 0]) 16 rfl Try.underlying41 inf55_ rfl (by decide) (by omega) _ old [(⟨(wrap64 x).tmod 6, (wrap64 ((wrap64 x).tdiv 6)).tmod 6⟩ : S55)] (some ⟨g57, 0, none⟩) 1 1 (fun _ => True) (fun _ => False) rfl rfl hR3 hC57 (fun y cs h => by rw [k55_open h]; exact k55_mkM _ _ _ y) (fun _ h => h.elim) (fun _ _ => trivial) hHeld.2.2 hHeld.2.2.size (by have := HOL.out; (try simp only [List.length_nil]); omega) ?_
        intro v5 w5 hR5 hB5 hg5 hat5
        obtain ⟨A5, c5, rfl⟩ := Kd.R_slice hR5
        obtain ⟨cells5, hcells5⟩ := Kd.N_typed (Kd.N_below HN.out hB5) g rfl
        have hfg := blk_frozen hcells5 kk
        have hcg := cell_kept4_ hB5 HCG.out
        refine hK.out _ _ ⟨cell_kept4_ hB5 HXC.out, cell_kept4_ hB5 HCG.out, hB5⟩ (fun hHeld => ?_)
        clear hK K
        refine norm_ (a' := ?_) ?_ ?_
        rotate_left
        · show Act.put _ (some 58) _ = _
          simp only [Act.put, List.setIfInBounds_toArray, List.set_cons_zero, List.set_cons_succ, i64_w, i32_w]
          rfl
        refine pure_ (i := 23) (N := some 59) (v := ?_) (a' := ?_) #[true, true, true, true, true, true, true, true, true, true, true, true, true, true, true, true, true, true, true, true, true, true, true, true, false] rfl rfl (by kernel_rfl) (fun _ _ _ h => h) (Or.inl ⟨by rfl, ?_⟩) ?_ ?_
        rotate_left
        · intro w'
          go_simp
          with_reducible rfl
        rotate_left
        · simp only [Act.put, List.setIfInBounds_toArray, List.set_cons_zero, List.set_cons_succ, i64_w, i32_w]
          rfl
        refine last_ (i := 24) (N := none) #[true, true, true, true, true, true, true, true, true, true, true, true, true, true, true, true, true, true, true, true, true, true, true, true, true] rfl rfl (by kernel_rfl) (by decide) (fun K hK => ?_)
        refine skip_ (w1 := ?_) (by rfl) rfl ?_ ?_
        rotate_left
        · go_simp
          rfl
        refine hK.out _ _ ?_
        clear hK K
        refine done_ (by kernel_rfl) ?_
        have HB6 := Aside0.mk ((below_step HB.out hB5).setCell (p := ⟨g, kk, none⟩) HGB.out (.slice A5 (old.length + 1) c5))
        have hP : (⟨(wrap64 x).tmod 6, (wrap64 ((wrap64 x).tdiv 6)).tmod 6⟩ : S55) = ⟨x % 6, x / 6 % 6⟩ := by
          have e1 : wrap64 x = x := by unfold wrap64; omega
          have e2 : x.tdiv 6 = x / 6 := Int.tdiv_eq_ediv_of_nonneg bi.1
          have e3 : wrap64 (x / 6) = x / 6 := by unfold wrap64; omega
          rw [e1, e2, e3, Int.tmod_eq_emod_of_nonneg bi.1, Int.tmod_eq_emod_of_nonneg (show 0 ≤ x / 6 by omega)]
        have hNs := (Kd.N_seg (Kd.N_below HN.out hB5) (kk : Int) (by omega) (by omega) (c := [.slice Ao old.length co]) (seg := [.slice A5 (old ++ [(⟨(wrap64 x).tmod 6, (wrap64 ((wrap64 x).tdiv 6)).tmod 6⟩ : S55)]).length c5]) (j := 0) rfl (fun j u hu => by
            match j, hu with
            | 0, hu => simp at hu; subst hu; rw [Int.toNat_natCast]; simpa [Kd.slice] using hcg
            | j + 1, hu => simp at hu) (by simp [Kd.slice]) (x' := old ++ [(⟨(wrap64 x).tmod 6, (wrap64 ((wrap64 x).tdiv 6)).tmod 6⟩ : S55)]) (okp := fun k => wr.heap.size ≤ k)
            (show Kd.FK (Kd.slice 55 k55) w5 _ _ [_] from Kd.FK_slice_mk (Kd.R_reads' hR5).2.1 (Kd.R_F (Kd.R_mono (Kd.R_bound hR5) (fun k hk => hk.2.1)))) (fun k hk => ⟨⟨trivial, Nat.le_trans HB.out.size hk, trivial⟩, by have := HGR.out; omega⟩)).1
        rw [hP, Int.toNat_natCast, ← HST2.out, show kk * (Kd.slice 55 k55).sz + 0 = kk from by show kk * 1 + 0 = kk; omega] at hNs
        replace hNs : Kd.N (Kd.slice 55 k55) 41 (w5.setCell ⟨g, kk, none⟩ (.slice A5 (old.length + 1) c5)) w.heap.size (fun k_ => True ∧ w.heap.size ≤ k_ ∧ True) (.slice (some ⟨g, 0, none⟩) M cap) (((l0.drop 1).take (i + 1 - 1)).foldl (jobP m) (List.replicate m.toNat [])) := by rw [List.length_append] at hNs; exact hNs
        have HNS := Aside0.mk hNs
        clear hNs hR5 hB5 hHeld
        go_wp2
        refine ⟨⟨i + 1, _, by omega, by omega, by simp, HNS, ⟨rfl⟩, ⟨fun row hr => ?_⟩, HB6⟩, ?_⟩
        · rw [HST2.out] at hr
          rcases List.mem_or_eq_of_mem_set hr with h | h
          · have := HLEN.out row h
            omega
          · rw [h, List.length_append]
            have := HOL.out
            simp only [List.length_singleton]
            omega
        · show 20 - ((i : Int) + 1).toNat < 20 - (i : Int).toNat
          omega
      · have hend : rows = r := by
          rw [HROWS.out, ← HR.out]
          unfold jobsP
          rw [HMV.out]
          congr 1
          by_cases h1 : i < l0.length
          · rw [show i - 1 = 19 by omega]
          · rw [List.take_of_length_le (by rw [List.length_drop]; omega), List.take_of_length_le (by rw [List.length_drop]; omega)]
        rw [hend] at HN
        clear HROWS HLEN hend
        by_cases h1 : i < l0.length
        · have q3 : ((i : Int) < (l0.length : Int)) = True := eq_true (by omega)
          have q4 : decide ((i : Int) < (l0.length : Int)) = true := decide_eq_true (by omega)
          have q5 : decide ((i : Int) < 20) = false := decide_eq_false (by omega)
          go_wp2
          go_ret
          exact ⟨_, rfl, HN.out, HB.out⟩
        · have q3 : ((i : Int) < (l0.length : Int)) = False := eq_false (by omega)
          have q4 : decide ((i : Int) < (l0.length : Int)) = false := decide_eq_false (by omega)
          go_wp2
          go_ret
          exact ⟨_, rfl, HN.out, HB.out⟩
  · have hz : l0.length = 0 := by omega
    have hrr : List.replicate (2 : Int).toNat ([] : List S55) = r := by
      rw [← HR.out]
      unfold jobsP manyP
      rw [if_neg hl, List.drop_eq_nil_of_le (by omega)]
      rfl
    have HRR := Aside0.mk hrr
    have q1 : decide ((0 : Int) < (l0.length : Int)) = false := decide_eq_false (by omega)
    have q3 : ((1 : Int) < (l0.length : Int)) = False := eq_false (by omega)
    have q4 : decide ((1 : Int) < (l0.length : Int)) = false := decide_eq_false (by omega)
    have q6 : decide (0 < l0.length) = false := decide_eq_false hl
    have q7 : decide (1 < l0.length) = false := decide_eq_false (by omega)
    have HZ := Aside0.mk hz
    clear hrr hz hl
    go_enter Try.func26, Try.ntmps26
    go_upto_region 4 with (fail)
    generalize hm : (2 : Int) = m at HRR ⊢
    have hm2 : 2 ≤ m ∧ m ≤ 5 := by omega
    clear hm
    go_upto_region 5 with (first | ((with_reducible refine gate_dst (N := 17) rfl ?_); refine Kd.N_make (Kd.slice 55 k55) (w0 := w) w.heap.size 41 rfl (N' := 17) rfl 38 (.tmp 16) (.tmp 16) rfl m rfl rfl Try.underlying38 (.slice none 0 0) 24 inf41_ rfl (by decide) (by omega) [] (okp := fun _ => False) (ok := fun k_ => True ∧ w.heap.size ≤ k_ ∧ True) (Kd.FK_slice_mk (Nat.le_refl _) (Kd.F_nil _ _ _)) (fun _ h => h.elim) ⟨trivial, Nat.le_refl _, trivial⟩ (by omega) (by omega) (Below.refl _ _) (Nat.le_refl _) ?_; intro v1 w1 hN hb _ _; have HN1 := Aside0.mk hN; have HB1 := Aside0.mk hb; clear hN hb))
    rw [HRR.out] at HN1
    go_wp2
    go_loopw [5] (fun v5 wr => v5 = .int .i64 1 ∧ Aside0 (Kd.N (Kd.slice 55 k55) 41 wr w.heap.size (fun k_ => True ∧ w.heap.size ≤ k_ ∧ True) v1 r) ∧ Aside0 (Below w.heap.size w wr)) (fun _ _ => 0)
    case atStart => exact ⟨rfl, HN1, HB1⟩
    case round =>
      clear HN1 HB1
      obtain ⟨rfl, HN, HB⟩ := hrel
      go_wp2
      go_ret
      exact ⟨_, rfl, HN.out, HB.out⟩


/-! ### turnspitlaw11_Picks: function 27 -/
def turnspitlaw11_Picks.l0 : Nat → Int → List Int → List Int → Int → Option (List Int)
  | 0, _, _, _, _ => none
  | k + 1, x0, x1, x5, x6 => if x6 < (x1.length : Int) then (if x6 < 300 then (if 0 ≤ x6 then (if x0 = 0 then (none) else (if x5.length < 17592186044416 then (turnspitlaw11_Picks.l0 k x0 x1 (x5 ++ [Int.tmod (wrap64 (rd x1 x6)) x0]) (wrap64 (x6 + 1))) else (none))) else (none)) else (some x5)) else (some x5)
def turnspitlaw11_Picks.f (k : Nat) (a0 : Int) (l1 : List Int) : Option (List Int) := turnspitlaw11_Picks.l0 k a0 l1 ([] : List Int) 0
theorem turnspitlaw11_Picks.mono_l : ∀ k, (∀ y0 y1 y2 y3, LeO (turnspitlaw11_Picks.l0 k y0 y1 y2 y3) (turnspitlaw11_Picks.l0 (k + 1) y0 y1 y2 y3))
  | 0 => fun _ _ _ _ r h => by simp [turnspitlaw11_Picks.l0] at h
  | k + 1 => by
    have ih0 := turnspitlaw11_Picks.mono_l k
    · intro y0 y1 y2 y3
      unfold turnspitlaw11_Picks.l0
      repeat' first
      | (with_reducible exact ih0 _ _ _ _)
      | (with_reducible exact LeO.refl _)
      | (with_reducible exact LeO.none _)
      | (with_reducible refine LeO.ite ?_ ?_)
      | (with_reducible refine LeO.bind ?_ (fun _ => ?_))
      | exact ih0 _ _ _ _
      | exact LeO.none _
      | refine LeO.ite ?_ ?_
      | refine LeO.bind ?_ (fun _ => ?_)
theorem turnspitlaw11_Picks.mono : ∀ a0 a1 k, LeO (turnspitlaw11_Picks.f k a0 a1) (turnspitlaw11_Picks.f (k + 1) a0 a1) := by
  intro a0 a1 k
  have ih0 := turnspitlaw11_Picks.mono_l k
  unfold turnspitlaw11_Picks.f
  repeat' first
      | (with_reducible exact ih0 _ _ _ _)
      | (with_reducible exact LeO.refl _)
      | (with_reducible exact LeO.none _)
      | (with_reducible refine LeO.ite ?_ ?_)
      | (with_reducible refine LeO.bind ?_ (fun _ => ?_))
      | exact ih0 _ _ _ _
      | exact LeO.none _
      | refine LeO.ite ?_ ?_
      | refine LeO.bind ?_ (fun _ => ?_)
set_option maxHeartbeats 8000000 in
set_option maxRecDepth 100000 in
theorem turnspitlaw11_Picks.calls (k : Nat) (a0 : Int) (A1 : Option Addr) (c1 : Nat) (l1 : List Int) (r : List Int) (w : World) (hr1 : Kd.C (Kd.int .u8) w A1 l1.length l1) (hc1 : l1.length ≤ c1) (h : turnspitlaw11_Picks.f k a0 l1 = some r) :
    Calls Try.prog 27 #[.int .i64 a0, .slice A1 l1.length c1] w fun e w' => ∃ v0_ : Value, e = .returned (v0_) ∧ Kd.R (Kd.int .i64) 3 w' w.heap.size (fun _ => True) v0_ r ∧ Below w.heap.size w w' := by
  have HR1 := Aside0.mk hr1
  have HC1 := Aside0.mk hc1
  clear hr1 hc1
  have HB := Aside0.mk (Below.refl w.heap.size w)
  have H : (turnspitlaw11_Picks.l0 k a0 l1 ([] : List Int) 0) = some r := h
  clear h
  have H' := Aside0.mk H
  clear H
  go_enter Try.func27, Try.ntmps27
  go_wp2
  go_loopg [5, 6] k (fun kq v5 v6 w' => ∃ (x5_1 : List Int) (x6_1 : Int), v6 = .int .i64 x6_1 ∧ Aside0 (turnspitlaw11_Picks.l0 kq a0 l1 x5_1 x6_1 = some r) ∧ Aside0 (kq ≤ k) ∧ Aside0 (Kd.R (Kd.int .i64) 3 w' w.heap.size (fun _ => True) v5 x5_1) ∧ Aside0 (Below w.heap.size w w'))
  case atStart => exact ⟨(([] : List Int)), (0), (by first | rfl | (simp; done) | (simp [*]; done)), H', ⟨Nat.le_refl _⟩, ⟨by first | exact Kd.R_nil _ _ _ _ _ | exact Kd.N_nil _ _ _ _ _ | exact Kd.V_nil _ _ _ _ _ | exact Kd.Q_nil _ _ _ _ _ | exact Kd.S_nil _ _ _ _ _⟩, ⟨by repeat (first | (with_reducible first | exact HB.out | apply below_alloc | apply pw_below_drewN | apply below_drew1) | exact HB.out)⟩⟩
  case round =>
    clear H'
    try clear c1
    try clear c2
    try clear p2
    obtain ⟨x5_1, x6_1, rfl, HA, HK1, HO_5, HB⟩ := hrel
    cases gk with
    | zero => exact absurd HA.out (by simp [turnspitlaw11_Picks.l0])
    | succ k1 =>
      have H := HA.out
      clear HA
      simp only [turnspitlaw11_Picks.l0] at H
      by_cases c3 : x6_1 < (l1.length : Int)
      · rw [if_pos c3] at H
        have c3b0 : decide (x6_1 < (l1.length : Int)) = true := decide_eq_true c3
        clear c3
        by_cases c4 : x6_1 < 300
        · rw [if_pos c4] at H
          have c4b0 : decide (x6_1 < 300) = true := decide_eq_true c4
          clear c4
          by_cases c5 : 0 ≤ x6_1
          · rw [if_pos c5] at H
            have c5b0 : decide (0 ≤ x6_1) = true := decide_eq_true c5
            clear c5
            by_cases c6 : a0 = 0
            · rw [if_pos c6] at H
              exact absurd H (by simp)
            · rw [if_neg c6] at H
              have c6b0 : (a0 == 0) = false := beq_eq_false_iff_ne.mpr c6
              have c6b1 : (a0 != 0) = true := bne_iff_ne.mpr c6
              by_cases c7 : x5_1.length < 17592186044416
              · rw [if_pos c7] at H
                have LMc7 := Aside0.mk c7
                clear c7
                obtain ⟨y173, hy173⟩ : ∃ y_ : List Int, y_ = (x5_1 ++ [Int.tmod (wrap64 (rd l1 x6_1)) a0]) := ⟨_, rfl⟩
                replace H : (turnspitlaw11_Picks.l0 k1 a0 l1 y173 (wrap64 (x6_1 + 1))) = some r := by first | (rw [hy173]; with_reducible exact H) | (have H2_ := (Option.bind_some _ _).symm.trans H; rw [hy173]; with_reducible exact H2_) | (have H2_ := (Option.bind_some _ _).symm.trans H; with_reducible exact H2_) | with_reducible exact H | (rw [hy173]; exact H) | exact H
                have Ny173 := Aside0.mk hy173
                clear hy173
                have H' := Aside0.mk H
                clear H
                have p172 : 0 ≤ (x6_1 : Int) := of_decide_eq_true (by first | (with_reducible assumption) | assumption)
                have q172 : x6_1 < (l1.length : Int) := of_decide_eq_true (by first | (with_reducible assumption) | assumption)
                obtain ⟨ad172, e172, hx172_0⟩ := Kd.at_int HR1.out x6_1 p172 q172
                cases e172
                replace hx172_0 := (HB.out.cell (World.block_lt_of_cell? w _ hx172_0)).trans hx172_0
                replace p172 := eq_true p172
                replace q172 := eq_true q172
                go_wp2_with (first | ((with_reducible refine gate_builtin (b := .append) (xs := #[.tmp 17, .tmp 25]) rfl ?_); at_builtin; refine Kd.R_append (Kd.int .i64) (w0 := w) w.heap.size rfl (.tmp 17) (.tmp 25) 22 3 (.int .i64 0) 8 rfl Try.underlying22 info3 rfl (by decide) (by omega) u5 x5_1 (Int.tmod (wrap64 (rd l1 x6_1)) a0) [.int .i64 (Int.tmod (wrap64 (rd l1 x6_1)) a0)] (fun _ => True) (fun _ => False) rfl rfl ?aP (fun _ hk => hk.elim) ?aF ?aO ?aB ?aS ?aL ?_; (case aP => exact rfl); (case aB => exact (by repeat (first | (with_reducible first | exact HB.out | apply below_alloc | apply pw_below_drewN | apply below_drew1) | exact HB.out))); (case aF => exact (fun _ _ => trivial)); (case aO => exact (by (with_reducible repeat (first | apply Kd.R_alloc | apply Kd.R_drewN | apply Kd.R_drew)); exact HO_5.out)); (case aS => exact (below_size (by repeat (first | (with_reducible first | exact HB.out | apply below_alloc | apply pw_below_drewN | apply below_drew1) | exact HB.out)))); (case aL => have := LMc7.out; omega); intro v174 w8 ho hb hg hat; rw [← Ny173.out] at ho; have n0_ := Aside0.mk (hb); have n1_ := Aside0.mk (ho); clear HB; clear HO_5; have HB := n0_; have HO175 := n1_; clear n0_ n1_; clear ho hb hg hat))
                go_roundg k1
                case measure => have := HK1.out; omega
                case rel => exact ⟨(y173), (wrap64 (x6_1 + 1)), (by first | rfl | (simp; done) | (simp [*]; done)), H', ⟨by have := HK1.out; omega⟩, ⟨by (with_reducible repeat (first | apply Kd.R_alloc | apply Kd.R_drewN | apply Kd.R_drew)); exact HO175.out⟩, ⟨by repeat (first | (with_reducible first | exact HB.out | apply below_alloc | apply pw_below_drewN | apply below_drew1) | exact HB.out)⟩⟩
              · rw [if_neg c7] at H
                exact absurd H (by simp)
          · rw [if_neg c5] at H
            exact absurd H (by simp)
        · rw [if_neg c4] at H
          have c4b0 : decide (x6_1 < 300) = false := decide_eq_false c4
          clear c4
          obtain rfl := Option.some.inj H
          go_wp2
          go_ret
          exact ⟨_, by first | rfl | (simp [errW_none, errW_some] <;> rfl) | (simp [*, errW_none, errW_some] <;> rfl), by (with_reducible repeat (first | apply Kd.R_alloc | apply Kd.R_drewN | apply Kd.R_drew)); exact HO_5.out, by repeat (first | (with_reducible first | exact HB.out | apply below_alloc | apply pw_below_drewN | apply below_drew1) | exact HB.out)⟩
      · rw [if_neg c3] at H
        have c3b0 : decide (x6_1 < (l1.length : Int)) = false := decide_eq_false c3
        clear c3
        obtain rfl := Option.some.inj H
        go_wp2
        go_ret
        exact ⟨_, by first | rfl | (simp [errW_none, errW_some] <;> rfl) | (simp [*, errW_none, errW_some] <;> rfl), by (with_reducible repeat (first | apply Kd.R_alloc | apply Kd.R_drewN | apply Kd.R_drew)); exact HO_5.out, by repeat (first | (with_reducible first | exact HB.out | apply below_alloc | apply pw_below_drewN | apply below_drew1) | exact HB.out)⟩

end Go.Proofs.Ytiidjnnagbfokaa.QLocksEnds
