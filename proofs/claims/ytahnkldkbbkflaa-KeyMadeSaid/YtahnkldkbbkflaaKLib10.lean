/- turnspitlaw08.Made: keys by numbers. No condition but lengths. Written by hand. -/
import Derived.Test.YtahnkldkbbkflaaKLib9
namespace Go.Proofs.Ytahnkldkbbkflaa.Srt
open Go.RowKit Go Go.Proofs Go.Proofs.Ytahnkldkbbkflaa Go.Proofs.Ytahnkldkbbkflaa.Ky Go.Proofs.YtahnkldkbbkflaaW.PrintWords Go.Proofs.YtahnkldkbbkflaaW.PrintLast Go.Proofs.YtahnkldkbbkflaaW.PrintMore
set_option linter.unusedVariables false
set_option linter.unusedSimpArgs false
def okU (l : List Int) : Bool := decide (l.length ≤ 140737488351232) && l.all fun x => decide (0 ≤ x ∧ x ≤ 65535)
def madeStep (mn : Int) (out : List K) (x : Int) : List K := if out.any (fun k => k.2 == x % 64) then out else out ++ [(IntKind.u64.wrap (IntKind.u64.wrap (mn + x / 64) - 300), x % 64)]
theorem madeK_eq (mn : Int) (l : List Int) : madeK mn l = (l.take 40).foldl (madeStep mn) [] := rfl
theorem okU_at {l : List Int} (h : okU l = true) (i : Nat) (hi : i < l.length) : 0 ≤ l.getD i 0 ∧ l.getD i 0 ≤ 65535 := by
  unfold okU at h
  rw [Bool.and_eq_true] at h
  have h2 := List.all_eq_true.1 h.2 (l.getD i 0) (by rw [List.getD_eq_getElem?_getD, List.getElem?_eq_getElem hi]; exact List.getElem_mem hi)
  exact of_decide_eq_true h2
structure Seen (w : World) (S : Nat) (out : List K) : Prop where mk ::
  out : ∃ cs : Array Value, w.heap[S]? = some (.cells cs 62 (0, 0)) ∧ cs.size = 64 ∧ ∀ j : Nat, j < 64 → cs[j]? = some (.bool (out.any fun k => k.2 == (j : Int)))
theorem Seen.moved {w w' : World} {S : Nat} {out : List K} (h : Seen w S out) (hb : w'.heap[S]? = w.heap[S]?) : Seen w' S out := by
  obtain ⟨cs, h1, h2⟩ := h.out
  exact ⟨cs, hb.trans h1, h2⟩
theorem Seen.lt {w : World} {S : Nat} {out : List K} (h : Seen w S out) : S < w.heap.size := by
  obtain ⟨cs, h1, _⟩ := h.out
  exact (Array.getElem?_eq_some_iff.1 h1).1
theorem Seen.cell {w : World} {S : Nat} {out : List K} (h : Seen w S out) (j : Nat) (hj : j < 64) : w.cell? ⟨S, j, none⟩ = some (.bool (out.any fun k => k.2 == (j : Int))) := by
  obtain ⟨cs, h1, _, h3⟩ := h.out
  rw [blk_cell h1]; exact h3 j hj
theorem Seen.frozen {w : World} {S : Nat} {out : List K} (h : Seen w S out) (j : Nat) : w.frozen? ⟨S, j, none⟩ = false := by
  obtain ⟨cs, h1, _⟩ := h.out
  exact blk_frozen h1 j
theorem Seen.set {w : World} {S : Nat} {out : List K} (h : Seen w S out) (j : Nat) (hj : j < 64) (v : Int) : Seen (w.setCell ⟨S, j, none⟩ (.bool true)) S (out ++ [(v, (j : Int))]) := by
  obtain ⟨cs, h1, h2, h3⟩ := h.out
  refine ⟨_, blk_set h1 j _, by simpa using h2, fun i hi => ?_⟩
  rw [Array.getElem?_setIfInBounds]
  by_cases e : j = i
  · subst e
    rw [if_pos rfl, if_pos (by omega)]
    simp
  · rw [if_neg e, h3 i hi, List.any_append]
    have hne : ((j : Int) == (i : Int)) = false := beq_eq_false_iff_ne.2 (by omega)
    simp [hne]
theorem Seen.zero (w : World) : Seen (w.alloc (.cells (List.replicate 64 (Value.bool false)).toArray 62)) w.heap.size [] := by
  refine ⟨_, blk_new w _, by rw [List.size_toArray, List.length_replicate], fun j hj => ?_⟩
  rw [List.getElem?_toArray, List.getElem?_replicate, if_pos hj]; rfl
set_option maxHeartbeats 8000000 in
set_option maxRecDepth 100000 in
theorem lawMade (mn : Int) (A0 : Option Addr) (c0 : Nat) (l : List Int) (w : World) (hr : Kd.C (Kd.int .u16) w A0 l.length l) (hok : okU l = true) :
    Calls Try.prog 23 #[.int .u64 mn, .slice A0 l.length c0] w fun e w' => ∃ v0 : Value, e = .returned v0 ∧ kp.R 26 w' w.heap.size (fun _ => True) v0 (madeK mn l) ∧ Below w.heap.size w w' := by
  have HR := Aside0.mk hr
  have HOK := Aside0.mk hok
  have hl : l.length ≤ 140737488351232 := by unfold okU at hok; rw [Bool.and_eq_true] at hok; exact of_decide_eq_true hok.1
  clear hr hok
  go_enter Try.func23, Try.ntmps23
  go_wp2
  go_loopw [5, 7] (fun vo i wr => ∃ (k : Nat) (out : List K), k ≤ l.length ∧ k ≤ 40 ∧ i = .int .i64 k ∧ Aside0 (Below w.heap.size w wr) ∧ Aside0 (Seen wr w.heap.size out) ∧ Aside0 (kp.R 26 wr w.heap.size (fun b => b ≠ w.heap.size) vo out) ∧ Aside0 (out = (l.take k).foldl (madeStep mn) []) ∧ Aside0 (out.length ≤ k)) (fun _ i _ => 40 - (intOf i).toNat)
  case atStart => exact ⟨0, [], Nat.zero_le _, by omega, by simp, ⟨below_alloc (Below.refl _ _) _⟩, ⟨Seen.zero w⟩, ⟨Kd.R_nil _ _ _ _ _⟩, ⟨rfl⟩, ⟨Nat.le_refl _⟩⟩
  case round =>
    obtain ⟨k, out, h1, h2, rfl, HB, HS, HRR, HO, HLN⟩ := hrel
    by_cases hlt : k < l.length
    · have n1 : (k : Int) < (l.length : Int) := by omega
      by_cases h40 : k < 40
      · have n2 : (k : Int) < 40 := by omega
        obtain ⟨ad, c, e2, _, hK, hcc⟩ := Kd.C_get (Kd.C_below HR.out HB.out) 0 (k : Int) (by omega) (by omega)
        subst e2
        have hc1 : wr.cell? (ad.add k) = some (.int .u16 (l.getD k 0)) := by
          have hq := hcc 0 (.int .u16 (l.getD ((k : Int)).toNat 0)) (by rw [show c = [.int .u16 (l.getD ((k : Int)).toNat 0)] from hK]; rfl)
          rw [Int.toNat_natCast] at hq
          have h1 : (Kd.int .u16).sz = 1 := rfl
          rw [h1, Nat.mul_one, Nat.add_zero] at hq
          exact hq
        have hx := okU_at HOK.out k hlt
        have hnx : (l.take (k + 1)).foldl (madeStep mn) [] = madeStep mn out (l.getD k 0) := by
          rw [List.take_succ_eq_append_getElem hlt, List.foldl_append, ← HO.out, List.getD_eq_getElem?_getD, List.getElem?_eq_getElem hlt]; rfl
        have HNX := Aside0.mk hnx
        clear hcc hK hnx
        generalize hxx : l.getD k 0 = x at hc1 hx HNX
        have HXX := Aside0.mk hxx
        clear hxx
        obtain ⟨x0, x1⟩ := hx
        have hm : x % 64 = ((x % 64).toNat : Int) := by omega
        have hm2 : (x % 64).toNat < 64 := by omega
        obtain ⟨j, hj⟩ : ∃ j, j = (x % 64).toNat := ⟨_, rfl⟩
        rw [← hj] at hm hm2
        have HM := Aside0.mk hm
        clear hj hm
        go_upto_region 7 with (fail)
        rw [HM.out]
        cases hany : out.any (fun k => k.2 == (j : Int)) with
        | true =>
          have cs1 := HS.out.cell j hm2
          rw [hany] at cs1
          have HANY := Aside0.mk hany
          have n3 : (j : Int) < 64 := by omega
          clear hany
          go_wp2
          refine ⟨⟨k + 1, out, by omega, by omega, by simp, HB, HS, HRR, ⟨by rw [HNX.out, madeStep, if_pos (by rw [HM.out]; exact HANY.out)]⟩, ⟨by have := HLN.out; omega⟩⟩, ?_⟩
          show 40 - ((k : Int) + 1).toNat < 40 - (k : Int).toNat
          omega
        | false =>
          have cs1 := HS.out.cell j hm2
          have f1 := HS.out.frozen j
          rw [hany] at cs1
          have HANY := Aside0.mk hany
          have n3 : (j : Int) < 64 := by omega
          clear hany
          go_upto_region 9 with (fail)
          have HB1 := Aside0.mk (Below.setCell HB.out (p := ⟨w.heap.size, j, none⟩) (Nat.le_refl _) (.bool true))
          have HS1 := Aside0.mk (HS.out.set j hm2 (IntKind.u64.wrap (IntKind.u64.wrap (mn + x / 64) - 300)))
          have HR1 : Aside0 (kp.R 26 (wr.setCell ⟨w.heap.size, j, none⟩ (.bool true)) w.heap.size (fun b => b ≠ w.heap.size) u5 out) := ⟨Kd.R_step HRR.out (fun q hq _ => Below.heap_setCell _ _ _ _ hq)⟩
          obtain ⟨ad2, c2, e2, _, hK, hcc⟩ := Kd.C_get (Kd.C_below HR.out HB1.out) 0 (k : Int) (by omega) (by omega)
          obtain rfl := Option.some.inj e2
          have hc2 : (wr.setCell ⟨w.heap.size, j, none⟩ (.bool true)).cell? (ad.add k) = some (.int .u16 x) := by
            have hq := hcc 0 (.int .u16 (l.getD ((k : Int)).toNat 0)) (by rw [show c2 = [.int .u16 (l.getD ((k : Int)).toNat 0)] from hK]; rfl)
            rw [Int.toNat_natCast, HXX.out] at hq
            have h1 : (Kd.int .u16).sz = 1 := rfl
            rw [h1, Nat.mul_one, Nat.add_zero] at hq
            exact hq
          have hS1 := HS1.out.lt
          have hle : out.length ≤ 40 := by have := HLN.out; omega
          clear hcc hK e2 cs1 f1 hc1 HB HS HRR
          generalize wr.setCell ⟨w.heap.size, j, none⟩ (.bool true) = W at HB1 HS1 HR1 hc2 hS1 ⊢
          have ev1 : IntKind.u16.wrap (x.tdiv 64) = x / 64 := by
            have w16 : ∀ y : Int, IntKind.u16.wrap y = y % 65536 := fun y => by unfold IntKind.wrap; simp [IntKind.signed, IntKind.bits]
            rw [w16, Int.tdiv_eq_ediv_of_nonneg x0]; omega
          have ev2 : IntKind.u64.wrap (x / 64) = x / 64 := by
            have w64 : ∀ y : Int, IntKind.u64.wrap y = y % 18446744073709551616 := fun y => by unfold IntKind.wrap; simp [IntKind.signed, IntKind.bits]
            rw [w64]; omega
          go_wp2_with (at_builtin; refine Kd.R_append kp (w0 := w) w.heap.size rfl (.tmp 31) (.tmp 43) 23 26 (.agg #[(.int .u64 0), (.int .i64 0)]) 16 rfl Try.underlying23 info26 rfl (show 0 < kp.sz by show 0 < 2; omega) (by omega) _ out (IntKind.u64.wrap (IntKind.u64.wrap (mn + x / 64) - 300), (j : Int)) [.int .u64 (IntKind.u64.wrap (IntKind.u64.wrap (mn + x / 64) - 300)), .int .i64 (j : Int)] (fun b => b ≠ w.heap.size) (fun _ => False) rfl rfl (kp_mkM _ _ _ _) (fun _ hk => hk.elim) (fun q hq e => by omega) HR1.out HB1.out HB1.out.size (by omega) ?_; intro v2 w2 hR2 hB2 hg2 hat2; have HR2 := Aside0.mk hR2; have HB2 := Aside0.mk hB2; have HS2 := Aside0.mk (HS1.out.moved (hg2.block _ hS1 (fun e => HR1.out.1 _ e.symm rfl))); clear hR2 hB2 hg2 hat2)
          refine ⟨⟨k + 1, _, by omega, by omega, by simp, HB2, HS2, HR2, ⟨by rw [HNX.out, madeStep, if_neg (by rw [HM.out, HANY.out]; simp), HM.out]⟩, ⟨by rw [List.length_append]; have := HLN.out; simp; omega⟩⟩, ?_⟩
          show 40 - ((k : Int) + 1).toNat < 40 - (k : Int).toNat
          omega
      · have n2 : decide ((k : Int) < 40) = false := decide_eq_false (by omega)
        have hmk : madeK mn l = out := by rw [HO.out, madeK_eq, show k = 40 by omega]
        have HMK := Aside0.mk hmk
        clear hmk
        go_wp2
        go_ret
        exact ⟨_, rfl, by rw [HMK.out]; exact Kd.R_mono HRR.out (fun _ _ => trivial), HB.out⟩
    · have n2 : decide ((k : Int) < (l.length : Int)) = false := decide_eq_false (by omega)
      have hmk : madeK mn l = out := by rw [HO.out, madeK_eq, List.take_of_length_le (by omega), List.take_of_length_le (by omega)]
      have HMK := Aside0.mk hmk
      clear hmk
      go_wp2
      go_ret
      exact ⟨_, rfl, by rw [HMK.out]; exact Kd.R_mono HRR.out (fun _ _ => trivial), HB.out⟩
end Go.Proofs.Ytahnkldkbbkflaa.Srt
