/- key.Sorted at keys. No condition but lengths. Written by hand. -/
import Derived.Test.YtahnkldkbbkflaaSMap
import Derived.Deep.DeepCutAuto
namespace Go.Proofs.Ytahnkldkbbkflaa.Srt
open Go.RowKit Go Go.Proofs Go.Proofs.Ytahnkldkbbkflaa Go.Proofs.Ytahnkldkbbkflaa.Ky Go.Proofs.YtahnkldkbbkflaaW.PrintWords Go.Proofs.YtahnkldkbbkflaaW.PrintLast Go.Proofs.YtahnkldkbbkflaaW.PrintMore
set_option linter.unusedVariables false
set_option linter.unusedSimpArgs false
def okAt (cv : K → K → Int) (l : List K) (i : Nat) : Prop := (i = 0 ∨ cv (gt l (i - 1)) (gt l i) < 0) ∧ ∀ j, j < i → (gt l j).2 ≠ (gt l i).2
instance (cv : K → K → Int) (l : List K) (i : Nat) : Decidable (okAt cv l i) := by unfold okAt; infer_instance
def sortedK (cv : K → K → Int) (l : List K) : Bool := decide (∀ i, i < l.length → okAt cv l i)
theorem mem_ids (l : List K) (i : Nat) (hi : i ≤ l.length) (x : Int) : x ∈ (l.take i).map (fun k => k.2) ↔ ∃ j, j < i ∧ (gt l j).2 = x := by
  rw [List.mem_map]
  constructor
  · rintro ⟨k, hk, rfl⟩
    obtain ⟨j, hj, rfl⟩ := List.mem_iff_getElem.1 hk
    rw [List.length_take] at hj
    exact ⟨j, by omega, by rw [gt_of l j (by omega), List.getElem_take]⟩
  · rintro ⟨j, hj, rfl⟩
    refine ⟨gt l j, ?_, rfl⟩
    rw [gt_of l j (by omega)]
    exact List.mem_iff_getElem.2 ⟨j, by rw [List.length_take]; omega, by rw [List.getElem_take]⟩
section
variable {mn : Int} {cv : K → K → Int} (hc : Cmp26 mn cv)
include hc
set_option maxHeartbeats 8000000 in
set_option maxRecDepth 100000 in
theorem keySorted (A0 : Option Addr) (c0 : Nat) (l : List K) (w : World) (hr : kp.C w A0 l.length l) (hl : l.length ≤ 1000000) (hid : ∀ k ∈ l, inI k.2) :
    Calls Try.prog 14 #[.int .u64 mn, .slice A0 l.length c0] w fun e w' => e = .returned (.bool (sortedK cv l)) ∧ Below w.heap.size w w' := by
  have HR := Aside0.mk hr
  have H := Aside0.mk hc
  have HID := Aside0.mk hid
  have hmk : ∀ W : World, (Instr.makeMap 51 none).run Try.prog W = .ok (.map (some W.heap.size)) (W.alloc (.map #[] 0)) := fun W => by simp [Instr.makeMap, run_underlying Try.underlying51, Result.andThen]
  have HM0 := Aside0.mk (SetM.made w)
  have HB0 := Aside0.mk (below_alloc (Below.refl w.heap.size w) (.map #[] 0))
  clear hr hc hid
  go_enter Try.func14, Try.ntmps14
  go_wp2
  go_loopw [11] (fun i wr => Sl1 (fun i wr => i ≤ l.length ∧ Aside0 (Below w.heap.size w wr) ∧ Aside0 (SetM wr w.heap.size ((l.take i).map (fun k => k.2))) ∧ Aside0 (∀ t, t < i → okAt cv l t)) i wr) (fun i _ => l.length - (intOf i).toNat)
  case atStart => exact ⟨0, by simp, Nat.zero_le _, HB0, HM0, ⟨fun t ht => by omega⟩⟩
  case round =>
    clear HM0 HB0
    obtain ⟨i, rfl, h1, HB, HM, HN⟩ := hrel.out
    by_cases hlt : i < l.length
    · obtain ⟨ad, e2, c1, c2⟩ := C_at (Kd.C_below HR.out HB.out) i hlt
      subst e2
      generalize hx : gt l i = x at c1 c2
      have HX := Aside0.mk hx
      have HIX : Aside0 (inI x.2) := ⟨by rw [← hx]; exact HID.out _ (gt_mem l i hlt)⟩
      have n1 : (i : Int) < (l.length : Int) := by omega
      clear hx
      go_upto_region 5 with (fail)
      have HB1 := Aside0.mk (below_alloc HB.out (.cells #[.int .u64 x.1, .int .i64 x.2] 26))
      have HM1 := Aside0.mk (HM.out.below (below_alloc (Below.refl wr.heap.size wr) (.cells #[.int .u64 x.1, .int .i64 x.2] 26)))
      have HK1 := Aside0.mk (blk_new wr (.cells #[.int .u64 x.1, .int .i64 x.2] 26))
      clear c1 c2 HB HM
      generalize wr.alloc (.cells #[.int .u64 x.1, .int .i64 x.2] 26) = w2 at HB1 HM1 HK1 ⊢
      generalize wr.heap.size = kb at HK1 ⊢
      go_cut [35] (fun c wx => ∃ bb : Bool, c = .bool bb ∧ Aside0 (bb = decide (¬ okAt cv l i)) ∧ Aside0 (Below w.heap.size w wx) ∧ Aside0 (SetM wx w.heap.size ((l.take i).map (fun k => k.2))) ∧ Aside0 (wx.heap[kb]? = some (.cells #[.int .u64 x.1, .int .i64 x.2] 26 (0, 0))))
      case first =>
        rcases Nat.eq_zero_or_pos i with h0 | h0
        · have hok : decide (¬ okAt cv l i) = false := decide_eq_false (fun h => h ⟨Or.inl h0, fun j hj => by omega⟩)
          have hlk := HM1.out.lookup x.2 HIX.out
          rw [show decide (x.2 ∈ (l.take i).map (fun k => k.2)) = false from decide_eq_false (fun h => by obtain ⟨j, hj, _⟩ := (mem_ids l i h1 _).1 h; omega)] at hlk
          have c3 := (blk_cell HK1.out 1).trans rfl
          have g1 : decide ((0 : Int) < (i : Int)) = false := decide_eq_false (by omega)
          have hlkN := fun n => show (Instr.lookup 51 (.map (some w.heap.size)) (.agg #[.int .i64 x.2]) false).run Try.prog (w2.drewN n) = .ok (.bool false) (w2.drewN n) from by
            have h := (show SetM (w2.drewN n) w.heap.size ((l.take i).map (fun k => k.2)) from HM1.out.moved rfl).lookup x.2 HIX.out
            rw [show decide (x.2 ∈ (l.take i).map (fun k => k.2)) = false from decide_eq_false (fun h => by obtain ⟨j, hj, _⟩ := (mem_ids l i h1 _).1 h; omega)] at h
            exact h
          go_quiet (fail)
          go_wp2_with fail
          go_meet
          exact ⟨false, rfl, ⟨hok.symm⟩, ⟨pw_below_drewN HB1.out _⟩, ⟨HM1.out.moved rfl⟩, ⟨blk_drewN HK1.out _⟩⟩
        · obtain ⟨ad2, e2, c1, c2⟩ := C_at (Kd.C_below HR.out HB1.out) (i - 1) (by omega)
          obtain rfl := Option.some.inj e2
          have c3 := (blk_cell HK1.out 0).trans rfl
          have c4 := (blk_cell HK1.out 1).trans rfl
          generalize hy : gt l (i - 1) = y at c1 c2
          have HY := Aside0.mk hy
          have g1 : decide ((0 : Int) < (i : Int)) = true := decide_eq_true (by omega)
          have g2 : (0 : Int) < (i : Int) := by omega
          have n2 : (i : Int) - 1 < (l.length : Int) := by omega
          have n3 : ((i : Int) - 1).toNat = i - 1 := by omega
          have n5 : (0 : Int) ≤ (i : Int) - 1 := by omega
          have n6 : (1 : Int) ≤ (i : Int) := by omega
          have n7 : IntKind.i64.wrap ((i : Int) - 1) = (i : Int) - 1 := IntWalk.i64_in _ (by omega)
          clear hy e2
          by_cases hcv : cv y x < 0
          · have HCV := Aside0.mk hcv
            have k1 : decide (cv y x < 0) = true := decide_eq_true hcv
            clear hcv
            cases hmem : decide (x.2 ∈ (l.take i).map (fun k => k.2)) with
            | false =>
              have hok : decide (¬ okAt cv l i) = false := decide_eq_false (fun h => h ⟨Or.inr (by rw [HX.out, HY.out]; exact HCV.out), fun j hj hje => by
                have := of_decide_eq_false hmem
                exact this ((mem_ids l i h1 _).2 ⟨j, hj, by rw [hje, HX.out]⟩)⟩)
              have HOK := Aside0.mk hok
              have HMEM := Aside0.mk hmem
              clear hmem hok
              have lk1 : (Instr.lookup 51 (.map (some w.heap.size)) (.agg #[.int .i64 x.2]) false).run Try.prog w2.drew = .ok (.bool false) w2.drew := by
                have h := (show SetM w2.drew w.heap.size ((l.take i).map (fun k => k.2)) from HM1.out.moved rfl).lookup x.2 HIX.out
                rwa [HMEM.out] at h
              go_region_held3 (fun w' => w'.cell? (ad.add ((i - 1) * 2)) = some (.int .u64 y.1) ∧ w'.cell? ⟨(ad.add ((i - 1) * 2)).block, (ad.add ((i - 1) * 2)).off + 1, none⟩ = some (.int .i64 y.2) ∧ w'.cell? ⟨kb, 0, none⟩ = some (.int .u64 x.1) ∧ w'.cell? ⟨kb, 1, none⟩ = some (.int .i64 x.2) ∧ (Instr.lookup 51 (.map (some w.heap.size)) (.agg #[.int .i64 x.2]) false).run Try.prog w' = .ok (.bool false) w') (first | exact ⟨c1, c2, c3, c4, lk1⟩ | exact ⟨cells_below c1 hb, cells_below c2 hb, cells_below c3 hb, cells_below c4 hb, (HM2.out.lookup x.2 HIX.out).trans (by rw [HMEM.out])⟩) (first | (go_at_call 12; (with_reducible refine (keyLess H.out y x _).mono ?_); rintro e w3 ⟨rfl, hb0⟩; have hb : Below w2.heap.size w2 w3 := (Below.drew (Below.refl _ _)).trans hb0; have HB2 := Aside0.mk (below_step HB1.out hb); have HM2 := Aside0.mk (HM1.out.below hb); have HK2 := Aside0.mk (blk_below HK1.out hb); clear hb0))
              all_goals (go_wp2_with fail; go_meet; exact ⟨_, rfl, ⟨HOK.out.symm⟩, HB2, HM2, HK2⟩)
            | true =>
              have hok : decide (¬ okAt cv l i) = true := decide_eq_true (fun h => by
                obtain ⟨j, hj, hje⟩ := (mem_ids l i h1 _).1 (of_decide_eq_true hmem)
                exact h.2 j hj (by rw [hje, HX.out]))
              have HOK := Aside0.mk hok
              have HMEM := Aside0.mk hmem
              clear hmem hok
              have lk1 : (Instr.lookup 51 (.map (some w.heap.size)) (.agg #[.int .i64 x.2]) false).run Try.prog w2.drew = .ok (.bool true) w2.drew := by
                have h := (show SetM w2.drew w.heap.size ((l.take i).map (fun k => k.2)) from HM1.out.moved rfl).lookup x.2 HIX.out
                rwa [HMEM.out] at h
              go_region_held3 (fun w' => w'.cell? (ad.add ((i - 1) * 2)) = some (.int .u64 y.1) ∧ w'.cell? ⟨(ad.add ((i - 1) * 2)).block, (ad.add ((i - 1) * 2)).off + 1, none⟩ = some (.int .i64 y.2) ∧ w'.cell? ⟨kb, 0, none⟩ = some (.int .u64 x.1) ∧ w'.cell? ⟨kb, 1, none⟩ = some (.int .i64 x.2) ∧ (Instr.lookup 51 (.map (some w.heap.size)) (.agg #[.int .i64 x.2]) false).run Try.prog w' = .ok (.bool true) w') (first | exact ⟨c1, c2, c3, c4, lk1⟩ | exact ⟨cells_below c1 hb, cells_below c2 hb, cells_below c3 hb, cells_below c4 hb, (HM2.out.lookup x.2 HIX.out).trans (by rw [HMEM.out])⟩) (first | (go_at_call 12; (with_reducible refine (keyLess H.out y x _).mono ?_); rintro e w3 ⟨rfl, hb0⟩; have hb : Below w2.heap.size w2 w3 := (Below.drew (Below.refl _ _)).trans hb0; have HB2 := Aside0.mk (below_step HB1.out hb); have HM2 := Aside0.mk (HM1.out.below hb); have HK2 := Aside0.mk (blk_below HK1.out hb); clear hb0))
              all_goals (go_wp2_with fail; go_meet; exact ⟨_, rfl, ⟨HOK.out.symm⟩, HB2, HM2, HK2⟩)
          · have hok : decide (¬ okAt cv l i) = true := decide_eq_true (fun h => by
              rcases h.1 with h | h
              · omega
              · rw [HX.out, HY.out] at h; exact hcv h)
            have HOK := Aside0.mk hok
            have k1 : decide (cv y x < 0) = false := decide_eq_false hcv
            have k3 : 0 ≤ cv y x := by omega
            clear hcv hok
            first | (go_region_with ((go_at_call 12; (with_reducible refine (keyLess H.out y x _).mono ?_); rintro e w3 ⟨rfl, hb0⟩; have hb : Below w2.heap.size w2 w3 := (Below.drew (Below.refl _ _)).trans hb0; have HB2 := Aside0.mk (below_step HB1.out hb); have HM2 := Aside0.mk (HM1.out.below hb); have HK2 := Aside0.mk (blk_below HK1.out hb); clear hb0; have c5 := (blk_cell HK2.out 1).trans rfl; clear hb c1 c2 c3 c4))) | fail
            all_goals (go_wp2_with fail; go_meet; exact ⟨_, rfl, ⟨HOK.out.symm⟩, HB2, HM2, HK2⟩)
      case rest =>
        obtain ⟨bb, rfl, HBB, HB2, HM2, HK2⟩ := hcut
        by_cases hok : okAt cv l i
        · have HOK := Aside0.mk hok
          obtain rfl : bb = false := by rw [HBB.out]; exact decide_eq_false (fun h => h hok)
          have c5 := (blk_cell HK2.out 1).trans rfl
          have hnm : x.2 ∉ (l.take i).map (fun k => k.2) := fun h => by
            obtain ⟨j, hj, hje⟩ := (mem_ids l i h1 _).1 h
            exact hok.2 j hj (by rw [hje, HX.out])
          obtain ⟨w4, hrun, hS, hG⟩ := HM2.out.store x.2 HIX.out hnm
          have HS4 := Aside0.mk hS
          have HG4 := Aside0.mk hG
          clear hok hnm hS hG
          go_wp2
          refine ⟨⟨i + 1, by simp, by omega, ⟨HB2.out.grown HG4.out HB2.out.size (fun k hk => by injection hk with hk; omega)⟩, ⟨?_⟩, ⟨fun t ht => ?_⟩⟩, ?_⟩
          · rw [List.take_succ_eq_append_getElem hlt, List.map_append]
            have h := HS4.out
            rw [← HX.out, gt_of l i hlt] at h
            exact h
          · by_cases e : t = i
            · subst e; exact HOK.out
            · exact HN.out t (by omega)
          · show l.length - ((i : Int) + 1).toNat < l.length - (i : Int).toNat
            omega
        · obtain rfl : bb = true := by rw [HBB.out]; exact decide_eq_true hok
          have hr : sortedK cv l = false := decide_eq_false (fun h => hok (h i hlt))
          have HRR := Aside0.mk hr
          clear hok hr
          go_wp2
          go_ret
          exact ⟨by rw [HRR.out]; rfl, HB2.out⟩
    · obtain rfl : i = l.length := by omega
      have hr : sortedK cv l = true := decide_eq_true (fun t ht => HN.out t ht)
      have HRR := Aside0.mk hr
      clear hr
      go_wp2
      go_ret
      exact ⟨by rw [HRR.out]; rfl, HB.out⟩
end
end Go.Proofs.Ytahnkldkbbkflaa.Srt
