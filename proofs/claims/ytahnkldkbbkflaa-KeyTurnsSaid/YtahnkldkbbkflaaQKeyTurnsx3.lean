/- Go functions of the program, each as a function of Lean with the proof that the Go text comes to its answers; no condition. Written by a program of this session. -/
import Derived.Test.YtahnkldkbbkflaaQKeyTurnsx0
import Derived.Test.YtahnkldkbbkflaaQKeyTurnsx2
namespace Go.Proofs.Ytahnkldkbbkflaa.QKeyTurns
open Go.RowKit Go.Proofs.YtahnkldkbbkflaaW.PrintWords Go.Proofs.YtahnkldkbbkflaaW.PrintLast Go.Proofs.YtahnkldkbbkflaaW.PrintMore
attribute [local go_sem] max2_int min2_int max_two min_two max_three min_three max_four min_four   -- for this text's walks alone
set_option linter.unusedVariables false
set_option linter.unusedSimpArgs false

/-! ### key_Put: function 19 -/
open Go.Proofs.Ytahnkldkbbkflaa.Ky Go.Proofs.Ytahnkldkbbkflaa.Srt Go.Proofs.Ytahnkldkbbkflaa.KC
def key_Put.f (a0 : Int) (l1 : List S26) (a2_0 : Int) (a2_1 : Int) : Option (List S26 × Int) := if okR (l1.map fun s => (s.f0, s.f1)) = true then some ((putK (cvf a0) (l1.map fun s => (s.f0, s.f1)) (a2_0, a2_1)).1.map (fun k => ⟨k.1, k.2⟩), (putK (cvf a0) (l1.map fun s => (s.f0, s.f1)) (a2_0, a2_1)).2) else none
theorem key_Put.calls (a0 : Int) (A1 : Option Addr) (c1 : Nat) (l1 : List S26) (a2_0 : Int) (a2_1 : Int) (r1 : List S26) (r2 : Int) (w : World) (hr1 : Kd.C k26 w A1 l1.length l1) (hc1 : l1.length ≤ c1) (h : key_Put.f a0 l1 a2_0 a2_1 = some (r1, r2)) :
    Calls Try.prog 19 #[.int .u64 a0, .slice A1 l1.length c1, .agg #[.int .u64 a2_0, .int .i64 a2_1]] w fun e w' => ∃ v0_ : Value, e = .returned (.tuple #[v0_, .int .i64 r2]) ∧ Kd.R k26 26 w' w.heap.size (fun _ => True) v0_ r1 ∧ Below w.heap.size w w' := by
  unfold key_Put.f at h
  by_cases c : okR (l1.map fun s => (s.f0, s.f1)) = true
  · rw [if_pos c] at h
    have h := Option.some.inj h
    simp only [Prod.mk.injEq] at h
    obtain ⟨rfl, rfl⟩ := h
    have hr := C_iso.1 hr1
    have h2 := keyPut (cmp26 a0) (a2_0, a2_1) A1 c1 (l1.map fun s => (s.f0, s.f1)) w (by rw [List.length_map]; exact hr) (okR_len c) (okR_id c)
    rw [List.length_map] at h2
    refine h2.mono ?_
    rintro e w' ⟨v0, rfl, hR, hb⟩
    exact ⟨v0, rfl, R_iso.2 (by rw [List.map_map, show ((fun s : S26 => (s.f0, s.f1)) ∘ fun k : K => (⟨k.1, k.2⟩ : S26)) = id from rfl, List.map_id]; exact hR), hb⟩
  · rw [if_neg c] at h
    cases h


-- NOT PRINTED: function 37 (api_Key_37)

/-! ### key_Drop: function 21 -/
open Go.Proofs.Ytahnkldkbbkflaa.Ky Go.Proofs.Ytahnkldkbbkflaa.Srt Go.Proofs.Ytahnkldkbbkflaa.KC
def key_Drop.f (a0 : Int) (l1 : List S26) (a2 : Int) : Option (List S26 × Int) := if okR (l1.map fun s => (s.f0, s.f1)) = true then some ((dropK (cvf a0) (l1.map fun s => (s.f0, s.f1)) a2).1.map (fun k => ⟨k.1, k.2⟩), (dropK (cvf a0) (l1.map fun s => (s.f0, s.f1)) a2).2) else none
theorem key_Drop.calls (a0 : Int) (A1 : Option Addr) (c1 : Nat) (l1 : List S26) (a2 : Int) (r1 : List S26) (r2 : Int) (w : World) (hr1 : Kd.C k26 w A1 l1.length l1) (hc1 : l1.length ≤ c1) (h : key_Drop.f a0 l1 a2 = some (r1, r2)) :
    Calls Try.prog 21 #[.int .u64 a0, .slice A1 l1.length c1, .int .i64 a2] w fun e w' => ∃ v0_ : Value, e = .returned (.tuple #[v0_, .int .i64 r2]) ∧ Kd.R k26 26 w' w.heap.size (fun _ => True) v0_ r1 ∧ Below w.heap.size w w' := by
  unfold key_Drop.f at h
  by_cases c : okR (l1.map fun s => (s.f0, s.f1)) = true
  · rw [if_pos c] at h
    have h := Option.some.inj h
    simp only [Prod.mk.injEq] at h
    obtain ⟨rfl, rfl⟩ := h
    have hr := C_iso.1 hr1
    have h2 := keyDrop (cmp26 a0) a2 A1 c1 (l1.map fun s => (s.f0, s.f1)) w (by rw [List.length_map]; exact hr) (okR_len c) (okR_id c)
    rw [List.length_map] at h2
    refine h2.mono ?_
    rintro e w' ⟨v0, rfl, hR, hb⟩
    exact ⟨v0, rfl, R_iso.2 (by rw [List.map_map, show ((fun s : S26 => (s.f0, s.f1)) ∘ fun k : K => (⟨k.1, k.2⟩ : S26)) = id from rfl, List.map_id]; exact hR), hb⟩
  · rw [if_neg c] at h
    cases h


/-! ### turnspitlaw08_awake: function 9 -/
section
variable {P : Program} {ops : Array Oper} {rest : List Oper} {o : Oper} {a : Act} {Q : Exit → Act → World → Prop}
theorem C_lit_ {α : Type} (d : Kd α) {W : World} (e : Nat) (hgd : o.guard = none) {N : Tmp} (hd : o.dst = some N) {xs : List α} {inner : List Value}
    (hrun : (execOp a.eval o).run P W = .ok (.value (.slice (some ⟨W.heap.size, 0, none⟩) xs.length xs.length)) (W.alloc (.cells inner.toArray e)))
    (hrep : Reps (d.K W) d.sz xs inner) (hm : xs.length ≤ 9223372036854775807)
    (h : ∀ A c w1, d.C w1 A xs.length xs → xs.length ≤ c → Below W.heap.size W w1 → wpList P ops Q rest (a.put o.dst (.slice A xs.length c)) w1) : wpList P ops Q (o :: rest) a W := by
  refine Kd.R_lit (Kd.raw d.sz) (w0 := W) W.heap.size e hgd hd (xs := Kd.chunks d.sz xs.length inner) (inner := inner) (ok := fun _ => True) (okp := fun _ => False) (by rw [Kd.chunks_length]; exact hrun) (Kd.reps_raw hrep (fun y c hk => ⟨d.K_len hk, d.K_one hk⟩)) (fun _ hk => hk.elim) trivial (Below.refl _ _) (Nat.le_refl _) (by rw [Kd.chunks_length]; exact hm) ?_
  intro v1 w1 hR hB _ _
  obtain ⟨A, c, rfl⟩ := Kd.R_slice hR
  obtain ⟨_, hle, hC⟩ := Kd.R_reads' hR
  rw [Kd.chunks_length] at hle hC ⊢
  refine h A c w1 ⟨rfl, hm, fun hn => ?_⟩ hle hB
  obtain ⟨ad, e1, hc⟩ := hC.2.2 hn
  refine ⟨ad, e1, fun j p hp => ?_⟩
  have hj : j < xs.length := (List.getElem?_eq_some_iff.1 hp).1
  obtain ⟨c1, hl1, hk1, hcc⟩ := hc j _ (Kd.chunks_at hj)
  refine ⟨c1, hl1, ?_, hcc⟩
  rw [hk1.1]
  exact d.K_below hB (hrep.2 j p hp)
end
def aw_a : S26 := ⟨18446744073709551615, 7⟩
def aw_b : S26 := ⟨0, 3⟩
def aw_c : S26 := ⟨0, 4⟩
theorem aw_e1 : key_Sort.f 18446744073709551611 [aw_c, aw_b, aw_a] = some [aw_a, aw_b, aw_c] := by
  have hok : okR ([aw_c, aw_b, aw_a].map fun s => (s.f0, s.f1)) = true := by kernel_rfl
  have h : sortK 18446744073709551611 ([aw_c, aw_b, aw_a].map fun s => (s.f0, s.f1)) = [aw_a, aw_b, aw_c].map fun s => (s.f0, s.f1) := by
    refine pw_unique (fun k hk => (okR_at hok k ((sortK_perm _ _).mem_iff.1 hk)).1) (sortK_pw _ _) ?_ ((sortK_perm _ _).trans ?_)
    · exact of_decide_eq_true (p := List.Pairwise (fun x y => ¬ cvf 18446744073709551611 y x < 0) _) (by kernel_rfl)
    · exact of_decide_eq_true (p := List.Perm _ _) (by kernel_rfl)
  unfold key_Sort.f
  rw [if_pos hok, h]
  rfl
theorem aw_e2 : key_Put.f 18446744073709551611 [aw_a, aw_c] 0 3 = some ([aw_a, aw_b, aw_c], 0) := by kernel_rfl
theorem aw_e3 : key_Put.f 18446744073709551611 [aw_a, aw_b, aw_c] 0 3 = some ([], 1) := by kernel_rfl
theorem aw_e4 : key_Drop.f 18446744073709551611 [aw_a, aw_b, aw_c] 3 = some ([aw_a, aw_c], 0) := by kernel_rfl
theorem aw_e5 : key_Drop.f 0 [aw_a, aw_b, aw_c] 3 = some ([aw_a, aw_c], 0) := by kernel_rfl
theorem aw_e6 : key_First.f 0 [aw_a, aw_b, aw_c] = some (18446744073709551615, 7, true) := by kernel_rfl
theorem aw_e7 : turnspitref08_Same.f 5 [aw_a, aw_b, aw_c] [aw_a, aw_b, aw_c] = some true := by kernel_rfl
theorem aw_e8 : turnspitref08_Same.f 5 [aw_a, aw_c] [aw_a, aw_c] = some true := by kernel_rfl
theorem aw_e9 : key_Sorted.f 18446744073709551611 [aw_a, aw_b, aw_c] = some true := by kernel_rfl
theorem aw_e10 : key_Less.f 5 18446744073709551611 18446744073709551615 7 0 3 = some true := by kernel_rfl
def turnspitlaw08_awake.f : Option Bool := some true
set_option maxHeartbeats 8000000 in
set_option maxRecDepth 100000 in
theorem turnspitlaw08_awake.calls (r : Bool) (w : World) (h : turnspitlaw08_awake.f = some r) :
    Calls Try.prog 9 #[] w fun e w' => e = .returned (.bool r) ∧ Below w.heap.size w w' := by
  obtain rfl := Option.some.inj h
  clear h
  have E1 := Aside0.mk aw_e1
  have E2 := Aside0.mk aw_e2
  have E3 := Aside0.mk aw_e3
  have E4 := Aside0.mk aw_e4
  have E5 := Aside0.mk aw_e5
  have E6 := Aside0.mk aw_e6
  have E7 := Aside0.mk aw_e7
  have E8 := Aside0.mk aw_e8
  have E9 := Aside0.mk aw_e9
  have E10 := Aside0.mk aw_e10
  obtain ⟨cba, hcba⟩ : ∃ j, j = [aw_c, aw_b, aw_a] := ⟨_, rfl⟩
  obtain ⟨abc, habc⟩ : ∃ j, j = [aw_a, aw_b, aw_c] := ⟨_, rfl⟩
  obtain ⟨ac, hac⟩ : ∃ j, j = [aw_a, aw_c] := ⟨_, rfl⟩
  obtain ⟨nl, hnil⟩ : ∃ j : List S26, j = [] := ⟨_, rfl⟩
  rw [← hcba, ← habc] at E1
  rw [← habc, ← hac] at E2
  rw [← habc, ← hnil] at E3
  rw [← habc, ← hac] at E4
  rw [← habc, ← hac] at E5
  rw [← habc] at E6
  rw [← habc] at E7
  rw [← hac] at E8
  rw [← habc] at E9
  have Hcba := Aside0.mk hcba
  have Habc := Aside0.mk habc
  have Hac := Aside0.mk hac
  clear hcba habc hac hnil
  have BA0 := Aside0.mk (blk_alloc (blk_alloc (blk_new w (.cells #[.int .u64 18446744073709551615, .int .i64 7] 26)) (.cells #[.int .u64 0, .int .i64 3] 26)) (.cells #[.int .u64 0, .int .i64 4] 26))
  have BB0 : Aside0 ((((w.alloc (.cells #[.int .u64 18446744073709551615, .int .i64 7] 26)).alloc (.cells #[.int .u64 0, .int .i64 3] 26)).alloc (.cells #[.int .u64 0, .int .i64 4] 26)).heap[w.heap.size + 1]? = some (.cells #[.int .u64 0, .int .i64 3] 26 (0, 0))) := ⟨by
    have h := blk_alloc (blk_new (w.alloc (.cells #[.int .u64 18446744073709551615, .int .i64 7] 26)) (.cells #[.int .u64 0, .int .i64 3] 26)) (.cells #[.int .u64 0, .int .i64 4] 26)
    simpa using h⟩
  have BC0 : Aside0 ((((w.alloc (.cells #[.int .u64 18446744073709551615, .int .i64 7] 26)).alloc (.cells #[.int .u64 0, .int .i64 3] 26)).alloc (.cells #[.int .u64 0, .int .i64 4] 26)).heap[w.heap.size + 1 + 1]? = some (.cells #[.int .u64 0, .int .i64 4] 26 (0, 0))) := ⟨by
    have h := blk_new ((w.alloc (.cells #[.int .u64 18446744073709551615, .int .i64 7] 26)).alloc (.cells #[.int .u64 0, .int .i64 3] 26)) (.cells #[.int .u64 0, .int .i64 4] 26)
    simpa using h⟩
  have HB0 := Aside0.mk (below_alloc (below_alloc (below_alloc (Below.refl w.heap.size w) (.cells #[.int .u64 18446744073709551615, .int .i64 7] 26)) (.cells #[.int .u64 0, .int .i64 3] 26)) (.cells #[.int .u64 0, .int .i64 4] 26))
  go_enter Try.func9, Try.ntmps9
  go_upto_region 2 with (fail)
  generalize ((w.alloc (.cells #[.int .u64 18446744073709551615, .int .i64 7] 26)).alloc (.cells #[.int .u64 0, .int .i64 3] 26)).alloc (.cells #[.int .u64 0, .int .i64 4] 26) = w0 at BA0 BB0 BC0 HB0 ⊢
  have cBA0 := (blk_cell BA0.out 0).trans rfl
  have cBA1 := (blk_cell BA0.out 1).trans rfl
  have cBB0 := (blk_cell BB0.out 0).trans rfl
  have cBB1 := (blk_cell BB0.out 1).trans rfl
  have cBC0 := (blk_cell BC0.out 0).trans rfl
  have cBC1 := (blk_cell BC0.out 1).trans rfl
  go_upto_region 3 with (first | ((with_reducible refine gate_dst (N := 21) rfl ?_); (try (refine gate_guard (by rfl) ?_; dsimp only)); refine C_lit_ k26 26 ?hg (N := 21) ?hd (xs := [aw_c, aw_b, aw_a]) (inner := [.int .u64 0, .int .i64 4, .int .u64 0, .int .i64 3, .int .u64 18446744073709551615, .int .i64 7]) ?hr ?hp (by simp) ?_; (case hd => rfl); (case hg => rfl); (case hr => first | (go_simp; done) | (go_simp; rfl)); (case hp => exact (Reps.c2 (show Kd.K k26 _ aw_c [.int .u64 0, .int .i64 4] from k26_mk _ aw_c) (Reps.c2 (show Kd.K k26 _ aw_b [.int .u64 0, .int .i64 3] from k26_mk _ aw_b) (Reps.c2 (show Kd.K k26 _ aw_a [.int .u64 18446744073709551615, .int .i64 7] from k26_mk _ aw_a) (Reps.none _ _))))); rw [← Hcba.out]; intro Ax cx w1 hC hc hb; have Cx1 := Aside0.mk hC; have Lx := Aside0.mk hc; have BA1 := Aside0.mk (blk_below BA0.out hb); have BB1 := Aside0.mk (blk_below BB0.out hb); have BC1 := Aside0.mk (blk_below BC0.out hb); have HB1 := Aside0.mk (below_step HB0.out hb); clear cBA0 cBA1 cBB0 cBB1 cBC0 cBC1 HB0 BA0 BB0 BC0; have cBA0 := (blk_cell BA1.out 0).trans rfl; have cBA1 := (blk_cell BA1.out 1).trans rfl; have cBB0 := (blk_cell BB1.out 0).trans rfl; have cBB1 := (blk_cell BB1.out 1).trans rfl; have cBC0 := (blk_cell BC1.out 0).trans rfl; have cBC1 := (blk_cell BC1.out 1).trans rfl; clear hC hc hb) | (go_at_call 17; (with_reducible refine (key_Sort.calls 18446744073709551611 Ax cx cba abc  _ Cx1.out Lx.out E1.out).mono ?_); rintro e w2 ⟨v0, rfl, hR, hb⟩; obtain ⟨Al, cl, rfl⟩ := Kd.R_slice hR; have Cl2 := Aside0.mk (Kd.R_reads' hR).2.2; have Ll := Aside0.mk (Kd.R_reads' hR).2.1; have BA2 := Aside0.mk (blk_below BA1.out hb); have BB2 := Aside0.mk (blk_below BB1.out hb); have BC2 := Aside0.mk (blk_below BC1.out hb); have Cx2 := Aside0.mk (Kd.C_below Cx1.out hb); have HB2 := Aside0.mk (below_step HB1.out hb); clear cBA0 cBA1 cBB0 cBB1 cBC0 cBC1 HB1 BA1 BB1 BC1 Cx1; have cBA0 := (blk_cell BA2.out 0).trans rfl; have cBA1 := (blk_cell BA2.out 1).trans rfl; have cBB0 := (blk_cell BB2.out 0).trans rfl; have cBB1 := (blk_cell BB2.out 1).trans rfl; have cBC0 := (blk_cell BC2.out 0).trans rfl; have cBC1 := (blk_cell BC2.out 1).trans rfl; clear hb hR))
  go_upto_region 4 with (first | ((with_reducible refine gate_dst (N := 26) rfl ?_); (try (refine gate_guard (by rfl) ?_; dsimp only)); refine C_lit_ k26 26 ?hg (N := 26) ?hd (xs := [aw_a, aw_c]) (inner := [.int .u64 18446744073709551615, .int .i64 7, .int .u64 0, .int .i64 4]) ?hr ?hp (by simp) ?_; (case hd => rfl); (case hg => rfl); (case hr => first | (go_simp; done) | (go_simp; rfl)); (case hp => exact (Reps.c2 (show Kd.K k26 _ aw_a [.int .u64 18446744073709551615, .int .i64 7] from k26_mk _ aw_a) (Reps.c2 (show Kd.K k26 _ aw_c [.int .u64 0, .int .i64 4] from k26_mk _ aw_c) (Reps.none _ _)))); rw [← Hac.out]; intro Ay cy w3 hC hc hb; have Cy3 := Aside0.mk hC; have Ly := Aside0.mk hc; have BA3 := Aside0.mk (blk_below BA2.out hb); have BB3 := Aside0.mk (blk_below BB2.out hb); have BC3 := Aside0.mk (blk_below BC2.out hb); have Cx3 := Aside0.mk (Kd.C_below Cx2.out hb); have Cl3 := Aside0.mk (Kd.C_below Cl2.out hb); have HB3 := Aside0.mk (below_step HB2.out hb); clear cBA0 cBA1 cBB0 cBB1 cBC0 cBC1 HB2 BA2 BB2 BC2 Cx2 Cl2; have cBA0 := (blk_cell BA3.out 0).trans rfl; have cBA1 := (blk_cell BA3.out 1).trans rfl; have cBB0 := (blk_cell BB3.out 0).trans rfl; have cBB1 := (blk_cell BB3.out 1).trans rfl; have cBC0 := (blk_cell BC3.out 0).trans rfl; have cBC1 := (blk_cell BC3.out 1).trans rfl; clear hC hc hb) | (go_at_call 19; (with_reducible refine (key_Put.calls 18446744073709551611 Ay cy ac 0 3 abc 0  _ Cy3.out Ly.out E2.out).mono ?_); rintro e w4 ⟨v0, rfl, hR, hb⟩; obtain ⟨Am, cm, rfl⟩ := Kd.R_slice hR; have Cm4 := Aside0.mk (Kd.R_reads' hR).2.2; have Lm := Aside0.mk (Kd.R_reads' hR).2.1; have BA4 := Aside0.mk (blk_below BA3.out hb); have BB4 := Aside0.mk (blk_below BB3.out hb); have BC4 := Aside0.mk (blk_below BC3.out hb); have Cx4 := Aside0.mk (Kd.C_below Cx3.out hb); have Cl4 := Aside0.mk (Kd.C_below Cl3.out hb); have Cy4 := Aside0.mk (Kd.C_below Cy3.out hb); have HB4 := Aside0.mk (below_step HB3.out hb); clear cBA0 cBA1 cBB0 cBB1 cBC0 cBC1 HB3 BA3 BB3 BC3 Cx3 Cl3 Cy3; have cBA0 := (blk_cell BA4.out 0).trans rfl; have cBA1 := (blk_cell BA4.out 1).trans rfl; have cBB0 := (blk_cell BB4.out 0).trans rfl; have cBB1 := (blk_cell BB4.out 1).trans rfl; have cBC0 := (blk_cell BC4.out 0).trans rfl; have cBC1 := (blk_cell BC4.out 1).trans rfl; clear hb hR))
  go_upto_region 5 with (first | (go_at_call 19; (with_reducible refine (key_Put.calls 18446744073709551611 Al cl abc 0 3 nl 1  _ Cl4.out Ll.out E3.out).mono ?_); rintro e w5 ⟨v0, rfl, hR, hb⟩; obtain ⟨Az, cz, rfl⟩ := Kd.R_slice hR; have Cz5 := Aside0.mk (Kd.R_reads' hR).2.2; have Lz := Aside0.mk (Kd.R_reads' hR).2.1; have BA5 := Aside0.mk (blk_below BA4.out hb); have BB5 := Aside0.mk (blk_below BB4.out hb); have BC5 := Aside0.mk (blk_below BC4.out hb); have Cx5 := Aside0.mk (Kd.C_below Cx4.out hb); have Cl5 := Aside0.mk (Kd.C_below Cl4.out hb); have Cy5 := Aside0.mk (Kd.C_below Cy4.out hb); have Cm5 := Aside0.mk (Kd.C_below Cm4.out hb); have HB5 := Aside0.mk (below_step HB4.out hb); clear cBA0 cBA1 cBB0 cBB1 cBC0 cBC1 HB4 BA4 BB4 BC4 Cx4 Cl4 Cy4 Cm4; have cBA0 := (blk_cell BA5.out 0).trans rfl; have cBA1 := (blk_cell BA5.out 1).trans rfl; have cBB0 := (blk_cell BB5.out 0).trans rfl; have cBB1 := (blk_cell BB5.out 1).trans rfl; have cBC0 := (blk_cell BC5.out 0).trans rfl; have cBC1 := (blk_cell BC5.out 1).trans rfl; clear hb hR))
  go_upto_region 6 with (first | (go_at_call 21; (with_reducible refine (key_Drop.calls 18446744073709551611 Al cl abc 3 ac 0  _ Cl5.out Ll.out E4.out).mono ?_); rintro e w6 ⟨v0, rfl, hR, hb⟩; obtain ⟨An, cn, rfl⟩ := Kd.R_slice hR; have Cn6 := Aside0.mk (Kd.R_reads' hR).2.2; have Ln := Aside0.mk (Kd.R_reads' hR).2.1; have BA6 := Aside0.mk (blk_below BA5.out hb); have BB6 := Aside0.mk (blk_below BB5.out hb); have BC6 := Aside0.mk (blk_below BC5.out hb); have Cx6 := Aside0.mk (Kd.C_below Cx5.out hb); have Cl6 := Aside0.mk (Kd.C_below Cl5.out hb); have Cy6 := Aside0.mk (Kd.C_below Cy5.out hb); have Cm6 := Aside0.mk (Kd.C_below Cm5.out hb); have Cz6 := Aside0.mk (Kd.C_below Cz5.out hb); have HB6 := Aside0.mk (below_step HB5.out hb); clear cBA0 cBA1 cBB0 cBB1 cBC0 cBC1 HB5 BA5 BB5 BC5 Cx5 Cl5 Cy5 Cm5 Cz5; have cBA0 := (blk_cell BA6.out 0).trans rfl; have cBA1 := (blk_cell BA6.out 1).trans rfl; have cBB0 := (blk_cell BB6.out 0).trans rfl; have cBB1 := (blk_cell BB6.out 1).trans rfl; have cBC0 := (blk_cell BC6.out 0).trans rfl; have cBC1 := (blk_cell BC6.out 1).trans rfl; clear hb hR))
  go_upto_region 7 with (first | (go_at_call 21; (with_reducible refine (key_Drop.calls 0 Al cl abc 3 ac 0  _ Cl6.out Ll.out E5.out).mono ?_); rintro e w7 ⟨v0, rfl, hR, hb⟩; obtain ⟨Au, cu, rfl⟩ := Kd.R_slice hR; have Cu7 := Aside0.mk (Kd.R_reads' hR).2.2; have Lu := Aside0.mk (Kd.R_reads' hR).2.1; have BA7 := Aside0.mk (blk_below BA6.out hb); have BB7 := Aside0.mk (blk_below BB6.out hb); have BC7 := Aside0.mk (blk_below BC6.out hb); have Cx7 := Aside0.mk (Kd.C_below Cx6.out hb); have Cl7 := Aside0.mk (Kd.C_below Cl6.out hb); have Cy7 := Aside0.mk (Kd.C_below Cy6.out hb); have Cm7 := Aside0.mk (Kd.C_below Cm6.out hb); have Cz7 := Aside0.mk (Kd.C_below Cz6.out hb); have Cn7 := Aside0.mk (Kd.C_below Cn6.out hb); have HB7 := Aside0.mk (below_step HB6.out hb); clear cBA0 cBA1 cBB0 cBB1 cBC0 cBC1 HB6 BA6 BB6 BC6 Cx6 Cl6 Cy6 Cm6 Cz6 Cn6; have cBA0 := (blk_cell BA7.out 0).trans rfl; have cBA1 := (blk_cell BA7.out 1).trans rfl; have cBB0 := (blk_cell BB7.out 0).trans rfl; have cBB1 := (blk_cell BB7.out 1).trans rfl; have cBC0 := (blk_cell BC7.out 0).trans rfl; have cBC1 := (blk_cell BC7.out 1).trans rfl; clear hb hR))
  go_upto_region 8 with (first | (go_at_call 10; (with_reducible refine (key_First.calls 0 Al cl abc 18446744073709551615 7 true  _ Cl7.out Ll.out E6.out).mono ?_); rintro e w8 ⟨rfl, hb0⟩; have hb : Below w7.heap.size w7 w8 := hb0; have BA8 := Aside0.mk (blk_below BA7.out hb); have BB8 := Aside0.mk (blk_below BB7.out hb); have BC8 := Aside0.mk (blk_below BC7.out hb); have Cx8 := Aside0.mk (Kd.C_below Cx7.out hb); have Cl8 := Aside0.mk (Kd.C_below Cl7.out hb); have Cy8 := Aside0.mk (Kd.C_below Cy7.out hb); have Cm8 := Aside0.mk (Kd.C_below Cm7.out hb); have Cz8 := Aside0.mk (Kd.C_below Cz7.out hb); have Cn8 := Aside0.mk (Kd.C_below Cn7.out hb); have Cu8 := Aside0.mk (Kd.C_below Cu7.out hb); have HB8 := Aside0.mk (below_step HB7.out hb); clear cBA0 cBA1 cBB0 cBB1 cBC0 cBC1 HB7 BA7 BB7 BC7 Cx7 Cl7 Cy7 Cm7 Cz7 Cn7 Cu7; have cBA0 := (blk_cell BA8.out 0).trans rfl; have cBA1 := (blk_cell BA8.out 1).trans rfl; have cBB0 := (blk_cell BB8.out 0).trans rfl; have cBB1 := (blk_cell BB8.out 1).trans rfl; have cBC0 := (blk_cell BC8.out 0).trans rfl; have cBC1 := (blk_cell BC8.out 1).trans rfl; clear hb hb0))
  have BD9 : Aside0 ((w8.alloc (.cells #[.int .u64 18446744073709551615, .int .i64 7] 26)).heap[w8.heap.size]? = some (.cells #[.int .u64 18446744073709551615, .int .i64 7] 26 (0, 0))) := ⟨blk_new w8 _⟩
  have hb := below_alloc (Below.refl w8.heap.size w8) (.cells #[.int .u64 18446744073709551615, .int .i64 7] 26)
  have BA9 := Aside0.mk (blk_below BA8.out hb)
  have BB9 := Aside0.mk (blk_below BB8.out hb)
  have BC9 := Aside0.mk (blk_below BC8.out hb)
  have Cx9 := Aside0.mk (Kd.C_below Cx8.out hb)
  have Cl9 := Aside0.mk (Kd.C_below Cl8.out hb)
  have Cy9 := Aside0.mk (Kd.C_below Cy8.out hb)
  have Cm9 := Aside0.mk (Kd.C_below Cm8.out hb)
  have Cz9 := Aside0.mk (Kd.C_below Cz8.out hb)
  have Cn9 := Aside0.mk (Kd.C_below Cn8.out hb)
  have Cu9 := Aside0.mk (Kd.C_below Cu8.out hb)
  have HB9 := Aside0.mk (below_step HB8.out hb)
  clear cBA0 cBA1 cBB0 cBB1 cBC0 cBC1 HB8 BA8 BB8 BC8 Cx8 Cl8 Cy8 Cm8 Cz8 Cn8 Cu8
  generalize hw9 : w8.alloc (.cells #[.int .u64 18446744073709551615, .int .i64 7] 26) = w9 at BD9 BA9 BB9 BC9 Cx9 Cl9 Cy9 Cm9 Cz9 Cn9 Cu9 HB9 hb ⊢
  generalize w8.heap.size = gd at BD9 ⊢
  clear hb hw9
  have cBA0 := (blk_cell BA9.out 0).trans rfl
  have cBA1 := (blk_cell BA9.out 1).trans rfl
  have cBB0 := (blk_cell BB9.out 0).trans rfl
  have cBB1 := (blk_cell BB9.out 1).trans rfl
  have cBC0 := (blk_cell BC9.out 0).trans rfl
  have cBC1 := (blk_cell BC9.out 1).trans rfl
  have cBD0 := (blk_cell BD9.out 0).trans rfl
  have cBD1 := (blk_cell BD9.out 1).trans rfl
  go_wp2_with (first | ((with_reducible refine gate_dst (N := 56) rfl ?_); (try (refine gate_guard (by rfl) ?_; dsimp only)); refine C_lit_ k26 26 ?hg (N := 56) ?hd (xs := [aw_a, aw_b, aw_c]) (inner := [.int .u64 18446744073709551615, .int .i64 7, .int .u64 0, .int .i64 3, .int .u64 0, .int .i64 4]) ?hr ?hp (by simp) ?_; (case hd => rfl); (case hg => rfl); (case hr => first | (go_simp; done) | (go_simp; rfl)); (case hp => exact (Reps.c2 (show Kd.K k26 _ aw_a [.int .u64 18446744073709551615, .int .i64 7] from k26_mk _ aw_a) (Reps.c2 (show Kd.K k26 _ aw_b [.int .u64 0, .int .i64 3] from k26_mk _ aw_b) (Reps.c2 (show Kd.K k26 _ aw_c [.int .u64 0, .int .i64 4] from k26_mk _ aw_c) (Reps.none _ _))))); rw [← Habc.out]; intro Ap cp w10 hC hc hb; have Cp10 := Aside0.mk hC; have Lp := Aside0.mk hc; have BA10 := Aside0.mk (blk_below BA9.out hb); have BB10 := Aside0.mk (blk_below BB9.out hb); have BC10 := Aside0.mk (blk_below BC9.out hb); have BD10 := Aside0.mk (blk_below BD9.out hb); have Cx10 := Aside0.mk (Kd.C_below Cx9.out hb); have Cl10 := Aside0.mk (Kd.C_below Cl9.out hb); have Cy10 := Aside0.mk (Kd.C_below Cy9.out hb); have Cm10 := Aside0.mk (Kd.C_below Cm9.out hb); have Cz10 := Aside0.mk (Kd.C_below Cz9.out hb); have Cn10 := Aside0.mk (Kd.C_below Cn9.out hb); have Cu10 := Aside0.mk (Kd.C_below Cu9.out hb); have HB10 := Aside0.mk (below_step HB9.out hb); clear cBA0 cBA1 cBB0 cBB1 cBC0 cBC1 cBD0 cBD1 HB9 BA9 BB9 BC9 BD9 Cx9 Cl9 Cy9 Cm9 Cz9 Cn9 Cu9; have cBA0 := (blk_cell BA10.out 0).trans rfl; have cBA1 := (blk_cell BA10.out 1).trans rfl; have cBB0 := (blk_cell BB10.out 0).trans rfl; have cBB1 := (blk_cell BB10.out 1).trans rfl; have cBC0 := (blk_cell BC10.out 0).trans rfl; have cBC1 := (blk_cell BC10.out 1).trans rfl; have cBD0 := (blk_cell BD10.out 0).trans rfl; have cBD1 := (blk_cell BD10.out 1).trans rfl; clear hC hc hb) | (go_at_call 16; (with_reducible refine (turnspitref08_Same.calls 5 Al cl abc Ap cp abc true  _ Cl10.out Ll.out Cp10.out Lp.out E7.out).mono ?_); rintro e w11 ⟨rfl, hb0⟩; have hb : Below w10.heap.size w10 w11 := hb0.below; have BA11 := Aside0.mk (blk_below BA10.out hb); have BB11 := Aside0.mk (blk_below BB10.out hb); have BC11 := Aside0.mk (blk_below BC10.out hb); have BD11 := Aside0.mk (blk_below BD10.out hb); have Cx11 := Aside0.mk (Kd.C_below Cx10.out hb); have Cl11 := Aside0.mk (Kd.C_below Cl10.out hb); have Cy11 := Aside0.mk (Kd.C_below Cy10.out hb); have Cm11 := Aside0.mk (Kd.C_below Cm10.out hb); have Cz11 := Aside0.mk (Kd.C_below Cz10.out hb); have Cn11 := Aside0.mk (Kd.C_below Cn10.out hb); have Cu11 := Aside0.mk (Kd.C_below Cu10.out hb); have Cp11 := Aside0.mk (Kd.C_below Cp10.out hb); have HB11 := Aside0.mk (below_step HB10.out hb); clear cBA0 cBA1 cBB0 cBB1 cBC0 cBC1 cBD0 cBD1 HB10 BA10 BB10 BC10 BD10 Cx10 Cl10 Cy10 Cm10 Cz10 Cn10 Cu10 Cp10; have cBA0 := (blk_cell BA11.out 0).trans rfl; have cBA1 := (blk_cell BA11.out 1).trans rfl; have cBB0 := (blk_cell BB11.out 0).trans rfl; have cBB1 := (blk_cell BB11.out 1).trans rfl; have cBC0 := (blk_cell BC11.out 0).trans rfl; have cBC1 := (blk_cell BC11.out 1).trans rfl; have cBD0 := (blk_cell BD11.out 0).trans rfl; have cBD1 := (blk_cell BD11.out 1).trans rfl; clear hb hb0) | (go_at_call 16; (with_reducible refine (turnspitref08_Same.calls 5 Am cm abc Al cl abc true  _ Cm11.out Lm.out Cl11.out Ll.out E7.out).mono ?_); rintro e w12 ⟨rfl, hb0⟩; have hb : Below w11.heap.size w11 w12 := hb0.below; have BA12 := Aside0.mk (blk_below BA11.out hb); have BB12 := Aside0.mk (blk_below BB11.out hb); have BC12 := Aside0.mk (blk_below BC11.out hb); have BD12 := Aside0.mk (blk_below BD11.out hb); have Cx12 := Aside0.mk (Kd.C_below Cx11.out hb); have Cl12 := Aside0.mk (Kd.C_below Cl11.out hb); have Cy12 := Aside0.mk (Kd.C_below Cy11.out hb); have Cm12 := Aside0.mk (Kd.C_below Cm11.out hb); have Cz12 := Aside0.mk (Kd.C_below Cz11.out hb); have Cn12 := Aside0.mk (Kd.C_below Cn11.out hb); have Cu12 := Aside0.mk (Kd.C_below Cu11.out hb); have Cp12 := Aside0.mk (Kd.C_below Cp11.out hb); have HB12 := Aside0.mk (below_step HB11.out hb); clear cBA0 cBA1 cBB0 cBB1 cBC0 cBC1 cBD0 cBD1 HB11 BA11 BB11 BC11 BD11 Cx11 Cl11 Cy11 Cm11 Cz11 Cn11 Cu11 Cp11; have cBA0 := (blk_cell BA12.out 0).trans rfl; have cBA1 := (blk_cell BA12.out 1).trans rfl; have cBB0 := (blk_cell BB12.out 0).trans rfl; have cBB1 := (blk_cell BB12.out 1).trans rfl; have cBC0 := (blk_cell BC12.out 0).trans rfl; have cBC1 := (blk_cell BC12.out 1).trans rfl; have cBD0 := (blk_cell BD12.out 0).trans rfl; have cBD1 := (blk_cell BD12.out 1).trans rfl; clear hb hb0) | ((with_reducible refine gate_dst (N := 75) rfl ?_); (try (refine gate_guard (by rfl) ?_; dsimp only)); refine C_lit_ k26 26 ?hg (N := 75) ?hd (xs := [aw_a, aw_c]) (inner := [.int .u64 18446744073709551615, .int .i64 7, .int .u64 0, .int .i64 4]) ?hr ?hp (by simp) ?_; (case hd => rfl); (case hg => rfl); (case hr => first | (go_simp; done) | (go_simp; rfl)); (case hp => exact (Reps.c2 (show Kd.K k26 _ aw_a [.int .u64 18446744073709551615, .int .i64 7] from k26_mk _ aw_a) (Reps.c2 (show Kd.K k26 _ aw_c [.int .u64 0, .int .i64 4] from k26_mk _ aw_c) (Reps.none _ _)))); rw [← Hac.out]; intro Aq cq w13 hC hc hb; have Cq13 := Aside0.mk hC; have Lq := Aside0.mk hc; have BA13 := Aside0.mk (blk_below BA12.out hb); have BB13 := Aside0.mk (blk_below BB12.out hb); have BC13 := Aside0.mk (blk_below BC12.out hb); have BD13 := Aside0.mk (blk_below BD12.out hb); have Cx13 := Aside0.mk (Kd.C_below Cx12.out hb); have Cl13 := Aside0.mk (Kd.C_below Cl12.out hb); have Cy13 := Aside0.mk (Kd.C_below Cy12.out hb); have Cm13 := Aside0.mk (Kd.C_below Cm12.out hb); have Cz13 := Aside0.mk (Kd.C_below Cz12.out hb); have Cn13 := Aside0.mk (Kd.C_below Cn12.out hb); have Cu13 := Aside0.mk (Kd.C_below Cu12.out hb); have Cp13 := Aside0.mk (Kd.C_below Cp12.out hb); have HB13 := Aside0.mk (below_step HB12.out hb); clear cBA0 cBA1 cBB0 cBB1 cBC0 cBC1 cBD0 cBD1 HB12 BA12 BB12 BC12 BD12 Cx12 Cl12 Cy12 Cm12 Cz12 Cn12 Cu12 Cp12; have cBA0 := (blk_cell BA13.out 0).trans rfl; have cBA1 := (blk_cell BA13.out 1).trans rfl; have cBB0 := (blk_cell BB13.out 0).trans rfl; have cBB1 := (blk_cell BB13.out 1).trans rfl; have cBC0 := (blk_cell BC13.out 0).trans rfl; have cBC1 := (blk_cell BC13.out 1).trans rfl; have cBD0 := (blk_cell BD13.out 0).trans rfl; have cBD1 := (blk_cell BD13.out 1).trans rfl; clear hC hc hb) | (go_at_call 16; (with_reducible refine (turnspitref08_Same.calls 5 An cn ac Aq cq ac true  _ Cn13.out Ln.out Cq13.out Lq.out E8.out).mono ?_); rintro e w14 ⟨rfl, hb0⟩; have hb : Below w13.heap.size w13 w14 := hb0.below; have BA14 := Aside0.mk (blk_below BA13.out hb); have BB14 := Aside0.mk (blk_below BB13.out hb); have BC14 := Aside0.mk (blk_below BC13.out hb); have BD14 := Aside0.mk (blk_below BD13.out hb); have Cx14 := Aside0.mk (Kd.C_below Cx13.out hb); have Cl14 := Aside0.mk (Kd.C_below Cl13.out hb); have Cy14 := Aside0.mk (Kd.C_below Cy13.out hb); have Cm14 := Aside0.mk (Kd.C_below Cm13.out hb); have Cz14 := Aside0.mk (Kd.C_below Cz13.out hb); have Cn14 := Aside0.mk (Kd.C_below Cn13.out hb); have Cu14 := Aside0.mk (Kd.C_below Cu13.out hb); have Cp14 := Aside0.mk (Kd.C_below Cp13.out hb); have Cq14 := Aside0.mk (Kd.C_below Cq13.out hb); have HB14 := Aside0.mk (below_step HB13.out hb); clear cBA0 cBA1 cBB0 cBB1 cBC0 cBC1 cBD0 cBD1 HB13 BA13 BB13 BC13 BD13 Cx13 Cl13 Cy13 Cm13 Cz13 Cn13 Cu13 Cp13 Cq13; have cBA0 := (blk_cell BA14.out 0).trans rfl; have cBA1 := (blk_cell BA14.out 1).trans rfl; have cBB0 := (blk_cell BB14.out 0).trans rfl; have cBB1 := (blk_cell BB14.out 1).trans rfl; have cBC0 := (blk_cell BC14.out 0).trans rfl; have cBC1 := (blk_cell BC14.out 1).trans rfl; have cBD0 := (blk_cell BD14.out 0).trans rfl; have cBD1 := (blk_cell BD14.out 1).trans rfl; clear hb hb0) | (go_at_call 14; (with_reducible refine (key_Sorted.calls 18446744073709551611 Al cl abc true  _ Cl14.out Ll.out E9.out).mono ?_); rintro e w15 ⟨rfl, hb0⟩; have hb : Below w14.heap.size w14 w15 := hb0; have BA15 := Aside0.mk (blk_below BA14.out hb); have BB15 := Aside0.mk (blk_below BB14.out hb); have BC15 := Aside0.mk (blk_below BC14.out hb); have BD15 := Aside0.mk (blk_below BD14.out hb); have Cx15 := Aside0.mk (Kd.C_below Cx14.out hb); have Cl15 := Aside0.mk (Kd.C_below Cl14.out hb); have Cy15 := Aside0.mk (Kd.C_below Cy14.out hb); have Cm15 := Aside0.mk (Kd.C_below Cm14.out hb); have Cz15 := Aside0.mk (Kd.C_below Cz14.out hb); have Cn15 := Aside0.mk (Kd.C_below Cn14.out hb); have Cu15 := Aside0.mk (Kd.C_below Cu14.out hb); have Cp15 := Aside0.mk (Kd.C_below Cp14.out hb); have Cq15 := Aside0.mk (Kd.C_below Cq14.out hb); have HB15 := Aside0.mk (below_step HB14.out hb); clear cBA0 cBA1 cBB0 cBB1 cBC0 cBC1 cBD0 cBD1 HB14 BA14 BB14 BC14 BD14 Cx14 Cl14 Cy14 Cm14 Cz14 Cn14 Cu14 Cp14 Cq14; have cBA0 := (blk_cell BA15.out 0).trans rfl; have cBA1 := (blk_cell BA15.out 1).trans rfl; have cBB0 := (blk_cell BB15.out 0).trans rfl; have cBB1 := (blk_cell BB15.out 1).trans rfl; have cBC0 := (blk_cell BC15.out 0).trans rfl; have cBC1 := (blk_cell BC15.out 1).trans rfl; have cBD0 := (blk_cell BD15.out 0).trans rfl; have cBD1 := (blk_cell BD15.out 1).trans rfl; clear hb hb0) | (go_at_call 12; (with_reducible refine (key_Less.calls 5 18446744073709551611 18446744073709551615 7 0 3 true  _  E10.out).mono ?_); rintro e w16 ⟨rfl, hb0⟩; have hb : Below w15.heap.size w15 w16 := hb0; have BA16 := Aside0.mk (blk_below BA15.out hb); have BB16 := Aside0.mk (blk_below BB15.out hb); have BC16 := Aside0.mk (blk_below BC15.out hb); have BD16 := Aside0.mk (blk_below BD15.out hb); have Cx16 := Aside0.mk (Kd.C_below Cx15.out hb); have Cl16 := Aside0.mk (Kd.C_below Cl15.out hb); have Cy16 := Aside0.mk (Kd.C_below Cy15.out hb); have Cm16 := Aside0.mk (Kd.C_below Cm15.out hb); have Cz16 := Aside0.mk (Kd.C_below Cz15.out hb); have Cn16 := Aside0.mk (Kd.C_below Cn15.out hb); have Cu16 := Aside0.mk (Kd.C_below Cu15.out hb); have Cp16 := Aside0.mk (Kd.C_below Cp15.out hb); have Cq16 := Aside0.mk (Kd.C_below Cq15.out hb); have HB16 := Aside0.mk (below_step HB15.out hb); clear cBA0 cBA1 cBB0 cBB1 cBC0 cBC1 cBD0 cBD1 HB15 BA15 BB15 BC15 BD15 Cx15 Cl15 Cy15 Cm15 Cz15 Cn15 Cu15 Cp15 Cq15; have cBA0 := (blk_cell BA16.out 0).trans rfl; have cBA1 := (blk_cell BA16.out 1).trans rfl; have cBB0 := (blk_cell BB16.out 0).trans rfl; have cBB1 := (blk_cell BB16.out 1).trans rfl; have cBC0 := (blk_cell BC16.out 0).trans rfl; have cBC1 := (blk_cell BC16.out 1).trans rfl; have cBD0 := (blk_cell BD16.out 0).trans rfl; have cBD1 := (blk_cell BD16.out 1).trans rfl; clear hb hb0))
  go_ret
  exact ⟨rfl, HB16.out⟩


/-! ### turnspitlaw08_Made: function 23 -/
open Go.Proofs.Ytahnkldkbbkflaa.Ky Go.Proofs.Ytahnkldkbbkflaa.Srt Go.Proofs.Ytahnkldkbbkflaa.KC
def turnspitlaw08_Made.f (a0 : Int) (l1 : List Int) : Option (List S26) := if okU l1 = true then some ((madeK a0 l1).map fun k => ⟨k.1, k.2⟩) else none
theorem turnspitlaw08_Made.calls (a0 : Int) (A1 : Option Addr) (c1 : Nat) (l1 : List Int) (r : List S26) (w : World) (hr1 : Kd.C (Kd.int .u16) w A1 l1.length l1) (hc1 : l1.length ≤ c1) (h : turnspitlaw08_Made.f a0 l1 = some r) :
    Calls Try.prog 23 #[.int .u64 a0, .slice A1 l1.length c1] w fun e w' => ∃ v0_ : Value, e = .returned (v0_) ∧ Kd.R k26 26 w' w.heap.size (fun _ => True) v0_ r ∧ Below w.heap.size w w' := by
  unfold turnspitlaw08_Made.f at h
  by_cases c : okU l1 = true
  · rw [if_pos c] at h
    obtain rfl := Option.some.inj h
    refine (lawMade a0 A1 c1 l1 w hr1 c).mono ?_
    rintro e w' ⟨v0, rfl, hR, hb⟩
    exact ⟨v0, rfl, R_iso.2 (by rw [List.map_map, show ((fun s : S26 => (s.f0, s.f1)) ∘ fun k : K => (⟨k.1, k.2⟩ : S26)) = id from rfl, List.map_id]; exact hR), hb⟩
  · rw [if_neg c] at h
    cases h


/-! ### turnspitlaw08_KeyTurns: function 7 -/
def turnspitlaw08_KeyTurns.l0 : Nat → Int → Int → Bool → List (S26) → List (S26) → Int → Option (Bool)
  | 0, _, _, _, _, _, _ => none
  | k + 1, x0, x2, x7, x8, x9, x10 => if x10 < (x8.length : Int) then (if 0 ≤ x10 then (if x9.length < 8796093022208 then (turnspitlaw08_KeyTurns.l0 k x0 x2 x7 x8 (x9 ++ [(⟨IntKind.u64.wrap (((rd_T26 x8 x10).f0) + x2), (rd_T26 x8 x10).f1⟩ : S26)]) (wrap64 (x10 + 1))) else (none)) else (none)) else (if x7 = true then ((key_Sorted.f (IntKind.u64.wrap (x0 + x2)) x9).bind fun t146 => (if t146 = true then ((key_Sorted.f (IntKind.u64.wrap (x0 + (Int.tmod x2 4611686018427387904))) x8).bind fun t147 => (some t147)) else (some false))) else (some false))
def turnspitlaw08_KeyTurns.f (k : Nat) (a0 : Int) (l1 : List Int) (a2 : Int) : Option (Bool) := (turnspitlaw08_awake.f).bind fun t134 => (if t134 = true then ((turnspitlaw08_Made.f a0 l1).bind fun t135 => ((key_Sort.f a0 t135).bind fun t138 => (turnspitlaw08_KeyTurns.l0 k a0 a2 t134 t138 ([] : List (S26)) 0))) else (some false))
theorem turnspitlaw08_KeyTurns.mono_l : ∀ k, (∀ y0 y1 y2 y3 y4 y5, LeO (turnspitlaw08_KeyTurns.l0 k y0 y1 y2 y3 y4 y5) (turnspitlaw08_KeyTurns.l0 (k + 1) y0 y1 y2 y3 y4 y5))
  | 0 => fun _ _ _ _ _ _ r h => by simp [turnspitlaw08_KeyTurns.l0] at h
  | k + 1 => by
    have ih0 := turnspitlaw08_KeyTurns.mono_l k
    · intro y0 y1 y2 y3 y4 y5
      unfold turnspitlaw08_KeyTurns.l0
      repeat' first
      | (with_reducible exact ih0 _ _ _ _ _ _)
      | (with_reducible exact LeO.refl _)
      | (with_reducible exact LeO.none _)
      | (with_reducible refine LeO.ite ?_ ?_)
      | (with_reducible refine LeO.bind ?_ (fun _ => ?_))
      | exact ih0 _ _ _ _ _ _
      | exact LeO.none _
      | refine LeO.ite ?_ ?_
      | refine LeO.bind ?_ (fun _ => ?_)
theorem turnspitlaw08_KeyTurns.mono : ∀ a0 a1 a2 k, LeO (turnspitlaw08_KeyTurns.f k a0 a1 a2) (turnspitlaw08_KeyTurns.f (k + 1) a0 a1 a2) := by
  intro a0 a1 a2 k
  have ih0 := turnspitlaw08_KeyTurns.mono_l k
  unfold turnspitlaw08_KeyTurns.f
  repeat' first
      | (with_reducible exact ih0 _ _ _ _ _ _)
      | (with_reducible exact LeO.refl _)
      | (with_reducible exact LeO.none _)
      | (with_reducible refine LeO.ite ?_ ?_)
      | (with_reducible refine LeO.bind ?_ (fun _ => ?_))
      | exact ih0 _ _ _ _ _ _
      | exact LeO.none _
      | refine LeO.ite ?_ ?_
      | refine LeO.bind ?_ (fun _ => ?_)
def turnspitlaw08_KeyTurns.T9 : Bool × List (List Nat × List Nat) := (true, [([], []), ([], []), ([], []), ([1, 2], [1, 2]), ([3], [3]), ([4], [4]), ([], []), ([5, 6], [5, 6]), ([], []), ([], []), ([8, 9], [8, 9]), ([10], [10]), ([11], [11]), ([7, 12], [7, 12]), ([13], [13]), ([0, 14], [0, 14]), ([15, 15, 0, 1, 2, 3, 4, 5, 6, 7, 8, 9, 10, 11, 12, 13, 14, 15], [0, 15])])
def turnspitlaw08_KeyTurns.B9 : List Nat := [0, 0, 0, 6, 14, 30, 0, 126, 0, 0, 768, 1792, 3840, 8190, 16382, 32767, 65535]
theorem turnspitlaw08_KeyTurns.tab9 : rtab .any (opsOf Try.f7 9) = turnspitlaw08_KeyTurns.T9 := by kernel_rfl
theorem turnspitlaw08_KeyTurns.bits9 : waitsOk turnspitlaw08_KeyTurns.T9.2 turnspitlaw08_KeyTurns.B9 = true := by kernel_rfl
set_option maxHeartbeats 8000000 in
set_option maxRecDepth 100000 in
theorem turnspitlaw08_KeyTurns.calls (k : Nat) (a0 : Int) (A1 : Option Addr) (c1 : Nat) (l1 : List Int) (a2 : Int) (r : Bool) (w : World) (hr1 : Kd.C (Kd.int .u16) w A1 l1.length l1) (hc1 : l1.length ≤ c1) (h : turnspitlaw08_KeyTurns.f k a0 l1 a2 = some r) (hr_ : r = true := by rfl) :
    Calls Try.prog 7 #[.int .u64 a0, .slice A1 l1.length c1, .int .u64 a2] w fun e w' => e = .returned (.bool r) ∧ Below w.heap.size w w' := by
  have hu26 := Try.underlying26
  have HR1 := Aside0.mk hr1
  have HC1 := Aside0.mk hc1
  clear hr1 hc1
  have HB := Aside0.mk (Below.refl w.heap.size w)
  have H : ((turnspitlaw08_awake.f).bind fun t134 => (if t134 = true then ((turnspitlaw08_Made.f a0 l1).bind fun t135 => ((key_Sort.f a0 t135).bind fun t138 => (turnspitlaw08_KeyTurns.l0 k a0 a2 t134 t138 ([] : List (S26)) 0))) else (some false))) = some r := h
  clear h
  replace H := Option.bind_eq_some_iff.mp H
  obtain ⟨t134, A40, H⟩ := H
  replace H : (if t134 = true then ((turnspitlaw08_Made.f a0 l1).bind fun t135 => ((key_Sort.f a0 t135).bind fun t138 => (turnspitlaw08_KeyTurns.l0 k a0 a2 t134 t138 ([] : List (S26)) 0))) else (some false)) = some r := H
  have A4 := Aside0.mk A40
  clear A40
  by_cases c5 : t134 = true
  · subst c5
    have H1 : ((turnspitlaw08_Made.f a0 l1).bind fun t135 => ((key_Sort.f a0 t135).bind fun t138 => (turnspitlaw08_KeyTurns.l0 k a0 a2 true t138 ([] : List (S26)) 0))) = some r := by first | (rw [if_pos rfl] at H; exact H) | (rw [if_pos trivial] at H; exact H)
    clear H
    have H := H1
    clear H1
    replace H := Option.bind_eq_some_iff.mp H
    obtain ⟨t135, A60, H⟩ := H
    replace H : ((key_Sort.f a0 t135).bind fun t138 => (turnspitlaw08_KeyTurns.l0 k a0 a2 true t138 ([] : List (S26)) 0)) = some r := H
    have A6 := Aside0.mk A60
    clear A60
    replace H := Option.bind_eq_some_iff.mp H
    obtain ⟨t138, A70, H⟩ := H
    replace H : (turnspitlaw08_KeyTurns.l0 k a0 a2 true t138 ([] : List (S26)) 0) = some r := H
    have A7 := Aside0.mk A70
    clear A70
    have H' := Aside0.mk H
    clear H
    go_enter Try.func7, Try.ntmps7
    go_wp2_with (first | ((with_reducible refine gate_callee (f := 9) rfl ?_); refine goesL_ (some 11) rfl rfl Try.func9 (by kernel_rfl) rfl #[] rfl (by (try simp only [List.map_toArray, List.map_cons, List.map_nil]); first | done | rfl | (simp only [List.length_drop, List.length_take]; rfl)) ?_; (with_reducible refine (turnspitlaw08_awake.calls  true _ A4.out).mono ?_); rintro e w8 ⟨rfl, hb⟩; refine ⟨_, rfl, ?_⟩; have n0_ := Aside0.mk (below_step (by repeat (first | (with_reducible first | exact HB.out | apply below_alloc | apply pw_below_drewN | apply below_drew1) | exact HB.out)) hb); clear HB; have HB := n0_; clear n0_; (try clear hb); (try clear hb2); (try clear hk); (try clear hi)) | ((with_reducible refine gate_callee (f := 23) rfl ?_); refine goesL_ (some 17) rfl rfl Try.func23 (by kernel_rfl) rfl #[.int .u64 a0, .slice A1 l1.length c1] rfl (by (try simp only [List.map_toArray, List.map_cons, List.map_nil]); first | done | rfl | (simp only [List.length_drop, List.length_take]; rfl)) ?_; (with_reducible refine (turnspitlaw08_Made.calls a0 _ _ l1 t135 _ ?side1 ?side2 A6.out).mono ?_); (case side1 => repeat (first | exact (Kd.C_below HR1.out HB.out) | (with_reducible refine Kd.C_alloc ?_ _) | (with_reducible refine Kd.C_drewN ?_ _) | (with_reducible refine Kd.C_drew ?_))); (case side2 => exact HC1.out); rintro e w9 ⟨v136, rfl, ho0, hb⟩; refine ⟨_, rfl, ?_⟩; have n0_ := Aside0.mk (Kd.R_lower ho0 (below_size (by repeat (first | (with_reducible first | exact HB.out | apply below_alloc | apply pw_below_drewN | apply below_drew1) | exact HB.out)))); have n1_ := Aside0.mk (below_step (by repeat (first | (with_reducible first | exact HB.out | apply below_alloc | apply pw_below_drewN | apply below_drew1) | exact HB.out)) hb); clear HB; have HO137 := n0_; have HB := n1_; clear n0_ n1_; (try clear hb); (try clear hb2); (try clear hk); (try clear hi); (try clear ho0); obtain ⟨Ao10, co10, eo10⟩ := Kd.R_slice HO137.out; subst eo10) | ((with_reducible refine gate_callee (f := 17) rfl ?_); refine goesL_ (some 18) rfl rfl Try.func17 (by kernel_rfl) rfl #[.int .u64 a0, .slice Ao10 t135.length co10] rfl (by (try simp only [List.map_toArray, List.map_cons, List.map_nil]); first | done | rfl | (simp only [List.length_drop, List.length_take]; rfl)) ?_; (with_reducible refine (key_Sort.calls a0 _ _ t135 t138 _ ?side1 ?side2 A7.out).mono ?_); (case side1 => repeat (first | exact (Kd.R_reads' HO137.out).2.2 | (with_reducible refine Kd.C_alloc ?_ _) | (with_reducible refine Kd.C_drewN ?_ _) | (with_reducible refine Kd.C_drew ?_))); (case side2 => exact (Kd.R_reads' HO137.out).2.1); rintro e w11 ⟨v139, rfl, ho0, hb⟩; refine ⟨_, rfl, ?_⟩; have n0_ := Aside0.mk (Kd.R_elder' (by (with_reducible repeat (first | apply Kd.R_alloc | apply Kd.R_drewN | apply Kd.R_drew)); exact HO137.out) (Kd.R_base ho0) hb); have n1_ := Aside0.mk (Kd.R_lower (Kd.R_new' ho0 (Kd.R_lt (by (with_reducible repeat (first | apply Kd.R_alloc | apply Kd.R_drewN | apply Kd.R_drew)); exact HO137.out))) (below_size (by repeat (first | (with_reducible first | exact HB.out | apply below_alloc | apply pw_below_drewN | apply below_drew1) | exact HB.out)))); have n2_ := Aside0.mk (below_step (by repeat (first | (with_reducible first | exact HB.out | apply below_alloc | apply pw_below_drewN | apply below_drew1) | exact HB.out)) hb); clear HO137; clear HB; have HO137 := n0_; have HO140 := n1_; have HB := n2_; clear n0_ n1_ n2_; (try clear hb); (try clear hb2); (try clear hk); (try clear hi); (try clear ho0)))
    go_loopg [9, 10] k (fun kq v9 v10 w' => ∃ (x9_1 : List (S26)) (x10_1 : Int), v10 = .int .i64 x10_1 ∧ Aside0 (turnspitlaw08_KeyTurns.l0 kq a0 a2 true t138 x9_1 x10_1 = some r) ∧ Aside0 (kq ≤ k) ∧ Aside0 (Kd.R k26 26 w' w.heap.size (fun k_ => some k_ ≠ (v9 : Value).ownBlock) v139 t138) ∧ Aside0 (Kd.R k26 26 w' w.heap.size (fun k_ => some k_ ≠ (v139 : Value).ownBlock) v9 x9_1) ∧ Aside0 (Below w.heap.size w w'))
    case atStart => exact ⟨(([] : List (S26))), (0), (by first | rfl | (simp; done) | (simp [*]; done)), H', ⟨Nat.le_refl _⟩, ⟨by (with_reducible repeat (first | apply Kd.R_alloc | apply Kd.R_drewN | apply Kd.R_drew)); exact Kd.R_mono HO140.out (fun _ hk => (by simp [Value.ownBlock]))⟩, ⟨by first | exact Kd.R_nil _ _ _ _ _ | exact Kd.N_nil _ _ _ _ _ | exact Kd.V_nil _ _ _ _ _ | exact Kd.Q_nil _ _ _ _ _ | exact Kd.S_nil _ _ _ _ _⟩, ⟨by repeat (first | (with_reducible first | exact HB.out | apply below_alloc | apply pw_below_drewN | apply below_drew1) | exact HB.out)⟩⟩
    case round =>
      clear H'
      try clear c1
      try clear c2
      try clear p2
      try clear c5
      try clear c7
      try clear c9
      obtain ⟨x9_1, x10_1, rfl, HA, HK1, HO_8, HO_9, HB⟩ := hrel
      cases gk with
      | zero => exact absurd HA.out (by simp [turnspitlaw08_KeyTurns.l0])
      | succ k1 =>
        have H := HA.out
        clear HA
        simp only [turnspitlaw08_KeyTurns.l0] at H
        by_cases c12 : x10_1 < (t138.length : Int)
        · rw [if_pos c12] at H
          have c12b0 : decide (x10_1 < (t138.length : Int)) = true := decide_eq_true c12
          clear c12
          by_cases c13 : 0 ≤ x10_1
          · rw [if_pos c13] at H
            have c13b0 : decide (0 ≤ x10_1) = true := decide_eq_true c13
            clear c13
            by_cases c14 : x9_1.length < 8796093022208
            · rw [if_pos c14] at H
              have LMc14 := Aside0.mk c14
              clear c14
              obtain ⟨y143, hy143⟩ : ∃ y_ : List (S26), y_ = (x9_1 ++ [(⟨IntKind.u64.wrap (((rd_T26 t138 x10_1).f0) + a2), (rd_T26 t138 x10_1).f1⟩ : S26)]) := ⟨_, rfl⟩
              replace H : (turnspitlaw08_KeyTurns.l0 k1 a0 a2 true t138 y143 (wrap64 (x10_1 + 1))) = some r := by first | (rw [hy143]; with_reducible exact H) | (have H2_ := (Option.bind_some _ _).symm.trans H; rw [hy143]; with_reducible exact H2_) | (have H2_ := (Option.bind_some _ _).symm.trans H; with_reducible exact H2_) | with_reducible exact H | (rw [hy143]; exact H) | exact H
              have Ny143 := Aside0.mk hy143
              clear hy143
              have H' := Aside0.mk H
              clear H
              obtain ⟨Ao15, co15, eo15⟩ := Kd.R_slice HO_8.out
              subst eo15
              try go_wp2
              have n0_ := Aside0.mk (Kd.R_drew HO_8.out)
              have n1_ := Aside0.mk (Kd.R_drew HO_9.out)
              have n2_ := Aside0.mk (below_drew1 HB.out)
              clear HO_8
              clear HO_9
              clear HB
              have HO_8 := n0_
              have HO_9 := n1_
              have HB := n2_
              clear n0_ n1_ n2_
              have p141 : 0 ≤ (x10_1 : Int) := of_decide_eq_true (by first | (with_reducible assumption) | assumption)
              have q141 : x10_1 < (t138.length : Int) := of_decide_eq_true (by first | (with_reducible assumption) | assumption)
              obtain ⟨ad141, e141, hx141_0, hx141_1⟩ := at_T26 (Kd.R_reads' HO_8.out).2.2 x10_1 p141 q141
              cases e141
              replace p141 := eq_true p141
              replace q141 := eq_true q141
              have p142 : 0 ≤ (x10_1 : Int) := of_decide_eq_true (by first | (with_reducible assumption) | assumption)
              have q142 : x10_1 < (t138.length : Int) := of_decide_eq_true (by first | (with_reducible assumption) | assumption)
              obtain ⟨ad142, e142, hx142_0, hx142_1⟩ := at_T26 (Kd.R_reads' HO_8.out).2.2 x10_1 p142 q142
              obtain rfl : ad141 = ad142 := (by injection e142)
              replace p142 := eq_true p142
              replace q142 := eq_true q142
              refine start_ (n := 17) (S := fun w' => w'.cell? (ad141.add ((x10_1).toNat * 2)) = some (.int .u64 ((rd_T26 t138 x10_1).f0)) ∧ w'.cell? ⟨(ad141.add ((x10_1).toNat * 2)).block, (ad141.add ((x10_1).toNat * 2)).off + 1, none⟩ = some (.int .i64 ((rd_T26 t138 x10_1).f1)) ∧ w'.cell? (ad141.add ((x10_1).toNat * 2)) = some (.int .u64 ((rd_T26 t138 x10_1).f0)) ∧ w'.cell? ⟨(ad141.add ((x10_1).toNat * 2)).block, (ad141.add ((x10_1).toNat * 2)).off + 1, none⟩ = some (.int .i64 ((rd_T26 t138 x10_1).f1))) (ds := [14, 15]) #[false, false, false, false, false, false, false, false, false, false, false, false, false, false, false, false, false] (by kernel_rfl) rfl rfl ⟨hx141_0, hx141_1, hx142_0, hx142_1⟩ (fun hHeld => ?_); refine with_tabW turnspitlaw08_KeyTurns.tab9 turnspitlaw08_KeyTurns.bits9 (fun HT_ HW_ => ?_)
              generalize wr.drew = w16 at HO_8 HO_9 HB hx141_0 hx141_1 hx142_0 hx142_1 hHeld ⊢
              refine pure_ (i := 0) (N := some 25) (v := ?_) (a' := ?_) #[true, false, false, false, false, false, false, false, false, false, false, false, false, false, false, false, false] rfl rfl (any_of HT_.out (by kernel_rfl)) (fun _ _ _ h => h) (Or.inl ⟨by rfl, ?_⟩) ?_ ?_
              rotate_left
              · intro w'
                go_simp
                with_reducible rfl
              rotate_left
              · simp only [Act.put, List.setIfInBounds_toArray, List.set_cons_zero, List.set_cons_succ, i64_w, i32_w]
                rfl
              refine pure_ (i := 1) (N := some 26) (v := ?_) (a' := ?_) #[true, true, false, false, false, false, false, false, false, false, false, false, false, false, false, false, false] rfl rfl (any_of HT_.out (by kernel_rfl)) (fun _ _ _ h => h) (Or.inl ⟨by rfl, ?_⟩) ?_ ?_
              rotate_left
              · intro w'
                go_simp
                with_reducible rfl
              rotate_left
              · simp only [Act.put, List.setIfInBounds_toArray, List.set_cons_zero, List.set_cons_succ, i64_w, i32_w]
                rfl
              refine pure_ (i := 2) (N := some 27) (v := ?_) (a' := ?_) #[true, true, true, false, false, false, false, false, false, false, false, false, false, false, false, false, false] rfl rfl (any_of HT_.out (by kernel_rfl)) (fun _ _ _ h => h) (Or.inl ⟨by rfl, ?_⟩) ?_ ?_
              rotate_left
              · intro w'
                go_simp
                with_reducible rfl
              rotate_left
              · simp only [Act.put, List.setIfInBounds_toArray, List.set_cons_zero, List.set_cons_succ, i64_w, i32_w]
                rfl
              refine pure_ (i := 3) (N := some 28) (v := ?_) (a' := ?_) #[true, true, true, true, false, false, false, false, false, false, false, false, false, false, false, false, false] rfl rfl (any_of HT_.out (by kernel_rfl)) (fun _ _ _ h => h) (Or.inl ⟨by rfl, ?_⟩) ?_ ?_
              rotate_left
              · intro w'
                go_simp
                with_reducible rfl
              rotate_left
              · simp only [Act.put, List.setIfInBounds_toArray, List.set_cons_zero, List.set_cons_succ, i64_w, i32_w]
                rfl
              refine pure_ (i := 4) (N := some 29) (v := ?_) (a' := ?_) #[true, true, true, true, true, false, false, false, false, false, false, false, false, false, false, false, false] rfl rfl (any_of HT_.out (by kernel_rfl)) (fun _ _ _ h => h) (Or.inl ⟨by rfl, ?_⟩) ?_ ?_
              rotate_left
              · intro w'
                go_simp
                with_reducible rfl
              rotate_left
              · simp only [Act.put, List.setIfInBounds_toArray, List.set_cons_zero, List.set_cons_succ, i64_w, i32_w]
                rfl
              refine pure_ (i := 6) (N := some 31) (v := ?_) (a' := ?_) #[true, true, true, true, true, false, true, false, false, false, false, false, false, false, false, false, false] rfl rfl (any_of HT_.out (by kernel_rfl)) (fun _ _ _ h => h) (Or.inl ⟨by rfl, ?_⟩) ?_ ?_
              rotate_left
              · intro w'
                go_simp
                with_reducible rfl
              rotate_left
              · simp only [Act.put, List.setIfInBounds_toArray, List.set_cons_zero, List.set_cons_succ, i64_w, i32_w]
                rfl
              refine pure_ (i := 8) (N := some 33) (v := ?_) (a' := ?_) #[true, true, true, true, true, false, true, false, true, false, false, false, false, false, false, false, false] rfl rfl (any_of HT_.out (by kernel_rfl)) (fun _ _ _ h => h) (Or.inl ⟨by rfl, ?_⟩) ?_ ?_
              rotate_left
              · intro w'
                go_simp
                with_reducible rfl
              rotate_left
              · simp only [Act.put, List.setIfInBounds_toArray, List.set_cons_zero, List.set_cons_succ, i64_w, i32_w]
                rfl
              refine pure_ (i := 9) (N := some 34) (v := ?_) (a' := ?_) #[true, true, true, true, true, false, true, false, true, true, false, false, false, false, false, false, false] rfl rfl (any_of HT_.out (by kernel_rfl)) (fun _ _ _ h => h) (Or.inl ⟨by rfl, ?_⟩) ?_ ?_
              rotate_left
              · intro w'
                go_simp
                with_reducible rfl
              rotate_left
              · simp only [Act.put, List.setIfInBounds_toArray, List.set_cons_zero, List.set_cons_succ, i64_w, i32_w]
                rfl
              refine pure_ (i := 10) (N := some 35) (v := ?_) (a' := ?_) #[true, true, true, true, true, false, true, false, true, true, true, false, false, false, false, false, false] rfl rfl (any_of HT_.out (by kernel_rfl)) (fun _ _ _ h => h) (Or.inl ⟨by rfl, ?_⟩) ?_ ?_
              rotate_left
              · intro w'
                go_simp
                with_reducible rfl
              rotate_left
              · simp only [Act.put, List.setIfInBounds_toArray, List.set_cons_zero, List.set_cons_succ, i64_w, i32_w]
                rfl
              refine pure_ (i := 11) (N := some 36) (v := ?_) (a' := ?_) #[true, true, true, true, true, false, true, false, true, true, true, true, false, false, false, false, false] rfl rfl (any_of HT_.out (by kernel_rfl)) (fun _ _ _ h => h) (Or.inl ⟨by rfl, ?_⟩) ?_ ?_
              rotate_left
              · intro w'
                go_simp
                with_reducible rfl
              rotate_left
              · simp only [Act.put, List.setIfInBounds_toArray, List.set_cons_zero, List.set_cons_succ, i64_w, i32_w]
                rfl
              refine take_ (i := 5) (N := some 30) (v := ?_) (a' := ?_) #[true, true, true, true, true, true, true, false, true, true, true, true, false, false, false, false, false] rfl rfl (take_ofW HT_.out HW_.out (by kernel_rfl)) (fun _ _ _ h => h) (Or.inl ⟨by rfl, ?_⟩) hHeld ?_ ?_
              rotate_left
              · rintro w' ⟨s0, s1, s2, s3⟩
                go_simp
                with_reducible rfl
              rotate_left
              · simp only [Act.put, List.setIfInBounds_toArray, List.set_cons_zero, List.set_cons_succ, i64_w, i32_w]
                rfl
              refine pure_ (i := 7) (N := some 32) (v := ?_) (a' := ?_) #[true, true, true, true, true, true, true, true, true, true, true, true, false, false, false, false, false] rfl rfl (any_of HT_.out (by kernel_rfl)) (fun _ _ _ h => h) (Or.inl ⟨by rfl, ?_⟩) ?_ ?_
              rotate_left
              · intro w'
                go_simp
                with_reducible rfl
              rotate_left
              · simp only [Act.put, List.setIfInBounds_toArray, List.set_cons_zero, List.set_cons_succ, i64_w, i32_w]
                rfl
              refine take_ (i := 12) (N := some 37) (v := ?_) (a' := ?_) #[true, true, true, true, true, true, true, true, true, true, true, true, true, false, false, false, false] rfl rfl (take_ofW HT_.out HW_.out (by kernel_rfl)) (fun _ _ _ h => h) (Or.inl ⟨by rfl, ?_⟩) hHeld ?_ ?_
              rotate_left
              · rintro w' ⟨s0, s1, s2, s3⟩
                go_simp
                with_reducible rfl
              rotate_left
              · simp only [Act.put, List.setIfInBounds_toArray, List.set_cons_zero, List.set_cons_succ, i64_w, i32_w]
                rfl
              refine pure_ (i := 13) (N := some 38) (v := ?_) (a' := ?_) #[true, true, true, true, true, true, true, true, true, true, true, true, true, true, false, false, false] rfl rfl (any_of HT_.out (by kernel_rfl)) (fun _ _ _ h => h) (Or.inl ⟨by rfl, ?_⟩) ?_ ?_
              rotate_left
              · intro w'
                go_simp
                with_reducible rfl
              rotate_left
              · simp only [Act.put, List.setIfInBounds_toArray, List.set_cons_zero, List.set_cons_succ, i64_w, i32_w]
                rfl
              refine last_ (i := 14) (N := some 39) #[true, true, true, true, true, true, true, true, true, true, true, true, true, true, true, false, false] rfl rfl (one_of HT_.out (by kernel_rfl)) (by decide) (fun K hK => ?_)
              refine value_ (w1 := ?_) (v := ?_) (by rfl) rfl ?_ ?_
              rotate_left 2
              · go_simp
                constructor
                · rfl
                · rfl
              refine hK.out _ _ ?_
              clear hK K
              refine norm_ (a' := ?_) ?_ ?_
              rotate_left
              · show Act.put _ (some 39) _ = _
                simp only [Act.put, List.setIfInBounds_toArray, List.set_cons_zero, List.set_cons_succ, i64_w, i32_w]
                rfl
              refine last_ (i := 15) (N := some 40) #[true, true, true, true, true, true, true, true, true, true, true, true, true, true, true, true, false] rfl rfl (one_of HT_.out (by kernel_rfl)) (by decide) (fun K hK => ?_)
              refine Kd.R_append_step k26 (w0 := w) w.heap.size (by rfl) (.tmp 25) (.tmp 39) 23 26 (.agg #[(.int .u64 0), (.int .i64 0)]) 16 rfl Try.underlying23 info26 rfl (by decide) (by omega) u9 x9_1 (⟨IntKind.u64.wrap (((rd_T26 t138 x10_1).f0) + a2), (rd_T26 t138 x10_1).f1⟩ : S26) [.int .u64 (IntKind.u64.wrap (((rd_T26 t138 x10_1).f0) + a2)), .int .i64 ((rd_T26 t138 x10_1).f1)] (fun k_ => some k_ ≠ (.slice (some ad141) t138.length co15 : Value).ownBlock) (fun _ => False) rfl rfl ?aP (fun _ hk => hk.elim) ?aF ?aO ?aB ?aS ?aL ?_
              (case aP => exact k26_mkM _ _ _ (⟨IntKind.u64.wrap (((rd_T26 t138 x10_1).f0) + a2), (rd_T26 t138 x10_1).f1⟩ : S26))
              (case aB => exact (by repeat (first | (with_reducible first | exact HB.out | apply below_alloc | apply pw_below_drewN | apply below_drew1) | exact HB.out)))
              (case aF => exact (fun k_ hk => Kd.fresh' (Kd.R_lt (by (with_reducible repeat (first | apply Kd.R_alloc | apply Kd.R_drewN | apply Kd.R_drew)); exact HO_8.out)) k_ hk))
              (case aO => exact (by (with_reducible repeat (first | apply Kd.R_alloc | apply Kd.R_drewN | apply Kd.R_drew)); exact HO_9.out))
              (case aS => exact (below_size (by repeat (first | (with_reducible first | exact HB.out | apply below_alloc | apply pw_below_drewN | apply below_drew1) | exact HB.out))))
              (case aL => have := LMc14.out; omega)
              intro v144 w17 ho hb hg hat
              rw [← Ny143.out] at ho
              have n0_ := Aside0.mk (Kd.R_after (ok := (fun _ => True)) (by (with_reducible repeat (first | apply Kd.R_alloc | apply Kd.R_drewN | apply Kd.R_drew)); exact Kd.R_mono HO_8.out (fun _ hk => ⟨trivial, hk⟩)) hg hat)
              have n1_ := Aside0.mk (hb)
              have n2_ := Aside0.mk (ho)
              clear HO_8
              clear HB
              clear HO_9
              have HO_8 := n0_
              have HB := n1_
              have HO145 := n2_
              clear n0_ n1_ n2_
              clear ho hb hg hat
              refine hK.out _ _ ?_
              clear hK K
              refine norm_ (a' := ?_) ?_ ?_
              rotate_left
              · show Act.put _ (some 40) _ = _
                simp only [Act.put, List.setIfInBounds_toArray, List.set_cons_zero, List.set_cons_succ, i64_w, i32_w]
                rfl
              refine pure_ (i := 16) (N := some 9) (v := ?_) (a' := ?_) #[true, true, true, true, true, true, true, true, true, true, true, true, true, true, true, true, true] rfl rfl (any_of HT_.out (by kernel_rfl)) (fun _ _ _ h => h) (Or.inl ⟨by rfl, ?_⟩) ?_ ?_
              rotate_left
              · intro w'
                go_simp
                with_reducible rfl
              rotate_left
              · simp only [Act.put, List.setIfInBounds_toArray, List.set_cons_zero, List.set_cons_succ, i64_w, i32_w]
                rfl
              refine done_ (done_of HT_.out (by kernel_rfl)) ?_
              try go_wp2
              go_roundg k1
              case measure => have := HK1.out; omega
              case rel => exact ⟨(y143), (wrap64 (x10_1 + 1)), (by first | rfl | (simp; done) | (simp [*]; done)), H', ⟨by have := HK1.out; omega⟩, ⟨by (with_reducible repeat (first | apply Kd.R_alloc | apply Kd.R_drewN | apply Kd.R_drew)); exact Kd.R_mono HO_8.out (fun _ hk => hk.2)⟩, ⟨by (with_reducible repeat (first | apply Kd.R_alloc | apply Kd.R_drewN | apply Kd.R_drew)); exact HO145.out⟩, ⟨by repeat (first | (with_reducible first | exact HB.out | apply below_alloc | apply pw_below_drewN | apply below_drew1) | exact HB.out)⟩⟩
            · rw [if_neg c14] at H
              exact absurd H (by simp)
          · rw [if_neg c13] at H
            exact absurd H (by simp)
        · rw [if_neg c12] at H
          have c12b0 : decide (x10_1 < (t138.length : Int)) = false := decide_eq_false c12
          clear c12
          by_cases c18 : true = true
          · clear c18
            have H1 : ((key_Sorted.f (IntKind.u64.wrap (a0 + a2)) x9_1).bind fun t146 => (if t146 = true then ((key_Sorted.f (IntKind.u64.wrap (a0 + (Int.tmod a2 4611686018427387904))) t138).bind fun t147 => (some t147)) else (some false))) = some r := by first | (rw [if_pos rfl] at H; exact H) | (rw [if_pos trivial] at H; exact H)
            clear H
            have H := H1
            clear H1
            replace H := Option.bind_eq_some_iff.mp H
            obtain ⟨t146, A190, H⟩ := H
            replace H : (if t146 = true then ((key_Sorted.f (IntKind.u64.wrap (a0 + (Int.tmod a2 4611686018427387904))) t138).bind fun t147 => (some t147)) else (some false)) = some r := H
            have A19 := Aside0.mk A190
            clear A190
            by_cases c20 : t146 = true
            · subst c20
              have H1 : ((key_Sorted.f (IntKind.u64.wrap (a0 + (Int.tmod a2 4611686018427387904))) t138).bind fun t147 => (some t147)) = some r := by first | (rw [if_pos rfl] at H; exact H) | (rw [if_pos trivial] at H; exact H)
              clear H
              have H := H1
              clear H1
              replace H := Option.bind_eq_some_iff.mp H
              obtain ⟨t147, A210, H⟩ := H
              replace H : (some t147) = some r := H
              have A21 := Aside0.mk A210
              clear A210
              obtain rfl := Option.some.inj H
              obtain ⟨Ao22, co22, eo22⟩ := Kd.R_slice HO_8.out
              subst eo22
              obtain ⟨Ao23, co23, eo23⟩ := Kd.R_slice HO_9.out
              subst eo23
              go_wp2_with (first | (go_at_call 14; (with_reducible refine (key_Sorted.calls (IntKind.u64.wrap (a0 + a2)) _ _ x9_1 true _ ?side1 ?side2 A19.out).mono ?_); (case side1 => repeat (first | exact (Kd.R_reads' HO_9.out).2.2 | (with_reducible refine Kd.C_alloc ?_ _) | (with_reducible refine Kd.C_drewN ?_ _) | (with_reducible refine Kd.C_drew ?_))); (case side2 => exact (Kd.R_reads' HO_9.out).2.1); rintro e w24 ⟨rfl, hb⟩; have n0_ := Aside0.mk (Kd.R_below (by (with_reducible repeat (first | apply Kd.R_alloc | apply Kd.R_drewN | apply Kd.R_drew)); exact HO_8.out) hb); have n1_ := Aside0.mk (Kd.R_below (by (with_reducible repeat (first | apply Kd.R_alloc | apply Kd.R_drewN | apply Kd.R_drew)); exact HO_9.out) hb); have n2_ := Aside0.mk (below_step (by repeat (first | (with_reducible first | exact HB.out | apply below_alloc | apply pw_below_drewN | apply below_drew1) | exact HB.out)) hb); clear HO_8; clear HO_9; clear HB; have HO_8 := n0_; have HO_9 := n1_; have HB := n2_; clear n0_ n1_ n2_; (try clear hb); (try clear hb2); (try clear hk); (try clear hi)) | (go_at_call 14; (with_reducible refine (key_Sorted.calls (IntKind.u64.wrap (a0 + (Int.tmod a2 4611686018427387904))) _ _ t138 t147 _ ?side1 ?side2 A21.out).mono ?_); (case side1 => repeat (first | exact (Kd.R_reads' HO_8.out).2.2 | (with_reducible refine Kd.C_alloc ?_ _) | (with_reducible refine Kd.C_drewN ?_ _) | (with_reducible refine Kd.C_drew ?_))); (case side2 => exact (Kd.R_reads' HO_8.out).2.1); rintro e w25 ⟨rfl, hb⟩; have n0_ := Aside0.mk (Kd.R_below (by (with_reducible repeat (first | apply Kd.R_alloc | apply Kd.R_drewN | apply Kd.R_drew)); exact HO_8.out) hb); have n1_ := Aside0.mk (Kd.R_below (by (with_reducible repeat (first | apply Kd.R_alloc | apply Kd.R_drewN | apply Kd.R_drew)); exact HO_9.out) hb); have n2_ := Aside0.mk (below_step (by repeat (first | (with_reducible first | exact HB.out | apply below_alloc | apply pw_below_drewN | apply below_drew1) | exact HB.out)) hb); clear HO_8; clear HO_9; clear HB; have HO_8 := n0_; have HO_9 := n1_; have HB := n2_; clear n0_ n1_ n2_; (try clear hb); (try clear hb2); (try clear hk); (try clear hi)))
              go_ret
              exact ⟨by first | rfl | (simp [errW_none, errW_some] <;> rfl) | (simp [*, errW_none, errW_some] <;> rfl), by repeat (first | (with_reducible first | exact HB.out | apply below_alloc | apply pw_below_drewN | apply below_drew1) | exact HB.out)⟩
            · replace c20 := Bool.eq_false_iff.mpr c20
              subst c20
              have H1 : (some false) = some r := by first | (rw [if_neg (show ¬ (false = true) by decide)] at H; exact H) | (rw [if_neg (fun h => h)] at H; exact H)
              clear H
              have H := H1
              clear H1
              rw [hr_] at H; simp at H
          · exact absurd rfl c18
  · replace c5 := Bool.eq_false_iff.mpr c5
    subst c5
    have H1 : (some false) = some r := by first | (rw [if_neg (show ¬ (false = true) by decide)] at H; exact H) | (rw [if_neg (fun h => h)] at H; exact H)
    clear H
    have H := H1
    clear H1
    rw [hr_] at H; simp at H
/-- THE ONE PURE STATEMENT of turnspitlaw08_KeyTurns: yours. -/
def turnspitlaw08_KeyTurns.Pure : Prop := ∀ (a0 : Int) (l1 : List Int) (a2 : Int), (Lit.int .u64 a0).wf = true → l1.length ≤ maxLen → l1.length * 2 ≤ 140737488351232 → (∀ x ∈ l1, (Lit.int .u16 x).wf = true) → (Lit.int .u64 a2).wf = true → ∃ k, turnspitlaw08_KeyTurns.f k a0 l1 a2 = some true
theorem turnspitlaw08_KeyTurns.walk (P : turnspitlaw08_KeyTurns.Pure) (a0 : Int) (a1 : Option Addr) (len1 cap1 : Nat) (z1 : List Int) (a2 : Int) (w : World) (w0 : (Lit.int .u64 a0).wf = true) (w1 : (a1 = none ∧ len1 = 0 ∧ cap1 = 0 ∧ z1 = []) ∨ ∃ x, a1 = some x ∧ len1 ≤ cap1 ∧ cap1 ≤ maxLen ∧ z1.length = cap1 ∧ (∀ i, i < z1.length → w.cell? (x.add i) = some (.int .u16 (z1.getD i 0))) ∧ ∀ n ∈ z1, (Lit.int .u16 n).wf = true) (y1 : len1 * 2 ≤ 140737488351232) (w2 : (Lit.int .u64 a2).wf = true) :
    Calls Try.prog 7 #[.int .u64 a0, .slice a1 len1 cap1, .int .u64 a2] w fun e w' => e = .returned (.bool true) ∧ Below w.heap.size w w' := by
  obtain ⟨l1, rfl, hr1, hm1, hw1, hc1⟩ := ReadsInt.ofRowC w1
  obtain ⟨k, h⟩ := P a0 l1 a2 w0 hm1 y1 hw1 w2
  refine (turnspitlaw08_KeyTurns.calls k a0 _ _ l1 a2 true w (Kd.C_of_reads (d := (0 : Int)) (h1 := fun _ => rfl) hr1) hc1 h).mono ?_
  rintro e w' ⟨rfl, hd⟩
  exact ⟨rfl, hd⟩

end Go.Proofs.Ytahnkldkbbkflaa.QKeyTurns
