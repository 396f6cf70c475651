/- Go functions of the program, each as a function of Lean with the proof that the Go text comes to its answers; no condition. Written by a program of this session. -/
import Derived.Test.YtahnkldkbbkflaaQKeyMadex0
import Derived.Test.YtahnkldkbbkflaaQKeyMadex2
namespace Go.Proofs.Ytahnkldkbbkflaa.QKeyMade
open Go.RowKit Go.Proofs.YtahnkldkbbkflaaW.PrintWords Go.Proofs.YtahnkldkbbkflaaW.PrintLast Go.Proofs.YtahnkldkbbkflaaW.PrintMore
attribute [local go_sem] max2_int min2_int max_two min_two max_three min_three max_four min_four   -- for this text's walks alone
set_option linter.unusedVariables false
set_option linter.unusedSimpArgs false

/-! ### key_Put: function 19 -/
open Go.Proofs.Ytahnkldkbbkflaa.Ky Go.Proofs.Ytahnkldkbbkflaa.Srt Go.Proofs.Ytahnkldkbbkflaa.KC
def key_Put.f (a0 : Int) (l1 : List S26) (a2_0 : Int) (a2_1 : Int) : Option (List S26 × Int) := if okR (l1.map fun s => (s.f0, s.f1)) = true then some ((putK (cvf a0) (l1.map fun s => (s.f0, s.f1)) (a2_0, a2_1)).1.map (fun k => ⟨k.1, k.2⟩), (putK (cvf a0) (l1.map fun s => (s.f0, s.f1)) (a2_0, a2_1)).2) else none
theorem key_Put.calls (a0 : Int) (A1 : Option Addr) (c1 : Nat) (l1 : List S26) (a2_0 : Int) (a2_1 : Int) (r1 : List S26) (r2 : Int) (w : World) (hr1 : Kd.C k26 w A1 l1.length l1) (hc1 : l1.length ≤ c1) (h : key_Put.f a0 l1 a2_0 a2_1 = some (r1, r2)) :
    Calls Try.prog 19 #[.int .u64 a0, .slice A1 l1.length c1, .agg #[.int .u64 a2_0, .int .i64 a2_1]] w fun e w' => ∃ v0_ : Value, e = .returned (.tuple #[v0_, .int .i64 r2]) ∧ Kd.R k26 26 w' w.heap.size (fun _ => True) v0_ r1 ∧ Below w.heap.size w w' := by
  unfold key_Put.f at h
  by_cases c : okR (l1.map fun s => (s.f0, s.f1)) = true
  · rw [if_pos c] at h
    have h := Option.some.inj h
    simp only [Prod.mk.injEq] at h
    obtain ⟨rfl, rfl⟩ := h
    have hr := C_iso.1 hr1
    have h2 := keyPut (cmp26 a0) (a2_0, a2_1) A1 c1 (l1.map fun s => (s.f0, s.f1)) w (by rw [List.length_map]; exact hr) (okR_len c) (okR_id c)
    rw [List.length_map] at h2
    refine h2.mono ?_
    rintro e w' ⟨v0, rfl, hR, hb⟩
    exact ⟨v0, rfl, R_iso.2 (by rw [List.map_map, show ((fun s : S26 => (s.f0, s.f1)) ∘ fun k : K => (⟨k.1, k.2⟩ : S26)) = id from rfl, List.map_id]; exact hR), hb⟩
  · rw [if_neg c] at h
    cases h


-- NOT PRINTED: function 37 (api_Key_37)

/-! ### key_Drop: function 21 -/
open Go.Proofs.Ytahnkldkbbkflaa.Ky Go.Proofs.Ytahnkldkbbkflaa.Srt Go.Proofs.Ytahnkldkbbkflaa.KC
def key_Drop.f (a0 : Int) (l1 : List S26) (a2 : Int) : Option (List S26 × Int) := if okR (l1.map fun s => (s.f0, s.f1)) = true then some ((dropK (cvf a0) (l1.map fun s => (s.f0, s.f1)) a2).1.map (fun k => ⟨k.1, k.2⟩), (dropK (cvf a0) (l1.map fun s => (s.f0, s.f1)) a2).2) else none
theorem key_Drop.calls (a0 : Int) (A1 : Option Addr) (c1 : Nat) (l1 : List S26) (a2 : Int) (r1 : List S26) (r2 : Int) (w : World) (hr1 : Kd.C k26 w A1 l1.length l1) (hc1 : l1.length ≤ c1) (h : key_Drop.f a0 l1 a2 = some (r1, r2)) :
    Calls Try.prog 21 #[.int .u64 a0, .slice A1 l1.length c1, .int .i64 a2] w fun e w' => ∃ v0_ : Value, e = .returned (.tuple #[v0_, .int .i64 r2]) ∧ Kd.R k26 26 w' w.heap.size (fun _ => True) v0_ r1 ∧ Below w.heap.size w w' := by
  unfold key_Drop.f at h
  by_cases c : okR (l1.map fun s => (s.f0, s.f1)) = true
  · rw [if_pos c] at h
    have h := Option.some.inj h
    simp only [Prod.mk.injEq] at h
    obtain ⟨rfl, rfl⟩ := h
    have hr := C_iso.1 hr1
    have h2 := keyDrop (cmp26 a0) a2 A1 c1 (l1.map fun s => (s.f0, s.f1)) w (by rw [List.length_map]; exact hr) (okR_len c) (okR_id c)
    rw [List.length_map] at h2
    refine h2.mono ?_
    rintro e w' ⟨v0, rfl, hR, hb⟩
    exact ⟨v0, rfl, R_iso.2 (by rw [List.map_map, show ((fun s : S26 => (s.f0, s.f1)) ∘ fun k : K => (⟨k.1, k.2⟩ : S26)) = id from rfl, List.map_id]; exact hR), hb⟩
  · rw [if_neg c] at h
    cases h


/-! ### turnspitlaw08_awake: function 9 -/
section
variable {P : Program} {ops : Array Oper} {rest : List Oper} {o : Oper} {a : Act} {Q : Exit → Act → World → Prop}
theorem C_lit_ {α : Type} (d : Kd α) {W : World} (e : Nat) (hgd : o.guard = none) {N : Tmp} (hd : o.dst = some N) {xs : List α} {inner : List Value}
    (hrun : (execOp a.eval o).run P W = .ok (.value (.slice (some ⟨W.heap.size, 0, none⟩) xs.length xs.length)) (W.alloc (.cells inner.toArray e)))
    (hrep : Reps (d.K W) d.sz xs inner) (hm : xs.length ≤ 9223372036854775807)
    (h : ∀ A c w1, d.C w1 A xs.length xs → xs.length ≤ c → Below W.heap.size W w1 → wpList P ops Q rest (a.put o.dst (.slice A xs.length c)) w1) : wpList P ops Q (o :: rest) a W := by
  refine Kd.R_lit (Kd.raw d.sz) (w0 := W) W.heap.size e hgd hd (xs := Kd.chunks d.sz xs.length inner) (inner := inner) (ok := fun _ => True) (okp := fun _ => False) (by rw [Kd.chunks_length]; exact hrun) (Kd.reps_raw hrep (fun y c hk => ⟨d.K_len hk, d.K_one hk⟩)) (fun _ hk => hk.elim) trivial (Below.refl _ _) (Nat.le_refl _) (by rw [Kd.chunks_length]; exact hm) ?_
  intro v1 w1 hR hB _ _
  obtain ⟨A, c, rfl⟩ := Kd.R_slice hR
  obtain ⟨_, hle, hC⟩ := Kd.R_reads' hR
  rw [Kd.chunks_length] at hle hC ⊢
  refine h A c w1 ⟨rfl, hm, fun hn => ?_⟩ hle hB
  obtain ⟨ad, e1, hc⟩ := hC.2.2 hn
  refine ⟨ad, e1, fun j p hp => ?_⟩
  have hj : j < xs.length := (List.getElem?_eq_some_iff.1 hp).1
  obtain ⟨c1, hl1, hk1, hcc⟩ := hc j _ (Kd.chunks_at hj)
  refine ⟨c1, hl1, ?_, hcc⟩
  rw [hk1.1]
  exact d.K_below hB (hrep.2 j p hp)
end
def aw_a : S26 := ⟨18446744073709551615, 7⟩
def aw_b : S26 := ⟨0, 3⟩
def aw_c : S26 := ⟨0, 4⟩
theorem aw_e1 : key_Sort.f 18446744073709551611 [aw_c, aw_b, aw_a] = some [aw_a, aw_b, aw_c] := by
  have hok : okR ([aw_c, aw_b, aw_a].map fun s => (s.f0, s.f1)) = true := by kernel_rfl
  have h : sortK 18446744073709551611 ([aw_c, aw_b, aw_a].map fun s => (s.f0, s.f1)) = [aw_a, aw_b, aw_c].map fun s => (s.f0, s.f1) := by
    refine pw_unique (fun k hk => (okR_at hok k ((sortK_perm _ _).mem_iff.1 hk)).1) (sortK_pw _ _) ?_ ((sortK_perm _ _).trans ?_)
    · exact of_decide_eq_true (p := List.Pairwise (fun x y => ¬ cvf 18446744073709551611 y x < 0) _) (by kernel_rfl)
    · exact of_decide_eq_true (p := List.Perm _ _) (by kernel_rfl)
  unfold key_Sort.f
  rw [if_pos hok, h]
  rfl
theorem aw_e2 : key_Put.f 18446744073709551611 [aw_a, aw_c] 0 3 = some ([aw_a, aw_b, aw_c], 0) := by kernel_rfl
theorem aw_e3 : key_Put.f 18446744073709551611 [aw_a, aw_b, aw_c] 0 3 = some ([], 1) := by kernel_rfl
theorem aw_e4 : key_Drop.f 18446744073709551611 [aw_a, aw_b, aw_c] 3 = some ([aw_a, aw_c], 0) := by kernel_rfl
theorem aw_e5 : key_Drop.f 0 [aw_a, aw_b, aw_c] 3 = some ([aw_a, aw_c], 0) := by kernel_rfl
theorem aw_e6 : key_First.f 0 [aw_a, aw_b, aw_c] = some (18446744073709551615, 7, true) := by kernel_rfl
theorem aw_e7 : turnspitref08_Same.f 5 [aw_a, aw_b, aw_c] [aw_a, aw_b, aw_c] = some true := by kernel_rfl
theorem aw_e8 : turnspitref08_Same.f 5 [aw_a, aw_c] [aw_a, aw_c] = some true := by kernel_rfl
theorem aw_e9 : key_Sorted.f 18446744073709551611 [aw_a, aw_b, aw_c] = some true := by kernel_rfl
theorem aw_e10 : key_Less.f 5 18446744073709551611 18446744073709551615 7 0 3 = some true := by kernel_rfl
def turnspitlaw08_awake.f : Option Bool := some true
set_option maxHeartbeats 8000000 in
set_option maxRecDepth 100000 in
theorem turnspitlaw08_awake.calls (r : Bool) (w : World) (h : turnspitlaw08_awake.f = some r) :
    Calls Try.prog 9 #[] w fun e w' => e = .returned (.bool r) ∧ Below w.heap.size w w' := by
  obtain rfl := Option.some.inj h
  clear h
  have E1 := Aside0.mk aw_e1
  have E2 := Aside0.mk aw_e2
  have E3 := Aside0.mk aw_e3
  have E4 := Aside0.mk aw_e4
  have E5 := Aside0.mk aw_e5
  have E6 := Aside0.mk aw_e6
  have E7 := Aside0.mk aw_e7
  have E8 := Aside0.mk aw_e8
  have E9 := Aside0.mk aw_e9
  have E10 := Aside0.mk aw_e10
  obtain ⟨cba, hcba⟩ : ∃ j, j = [aw_c, aw_b, aw_a] := ⟨_, rfl⟩
  obtain ⟨abc, habc⟩ : ∃ j, j = [aw_a, aw_b, aw_c] := ⟨_, rfl⟩
  obtain ⟨ac, hac⟩ : ∃ j, j = [aw_a, aw_c] := ⟨_, rfl⟩
  obtain ⟨nl, hnil⟩ : ∃ j : List S26, j = [] := ⟨_, rfl⟩
  rw [← hcba, ← habc] at E1
  rw [← habc, ← hac] at E2
  rw [← habc, ← hnil] at E3
  rw [← habc, ← hac] at E4
  rw [← habc, ← hac] at E5
  rw [← habc] at E6
  rw [← habc] at E7
  rw [← hac] at E8
  rw [← habc] at E9
  have Hcba := Aside0.mk hcba
  have Habc := Aside0.mk habc
  have Hac := Aside0.mk hac
  clear hcba habc hac hnil
  have BA0 := Aside0.mk (blk_alloc (blk_alloc (blk_new w (.cells #[.int .u64 18446744073709551615, .int .i64 7] 26)) (.cells #[.int .u64 0, .int .i64 3] 26)) (.cells #[.int .u64 0, .int .i64 4] 26))
  have BB0 : Aside0 ((((w.alloc (.cells #[.int .u64 18446744073709551615, .int .i64 7] 26)).alloc (.cells #[.int .u64 0, .int .i64 3] 26)).alloc (.cells #[.int .u64 0, .int .i64 4] 26)).heap[w.heap.size + 1]? = some (.cells #[.int .u64 0, .int .i64 3] 26 (0, 0))) := ⟨by
    have h := blk_alloc (blk_new (w.alloc (.cells #[.int .u64 18446744073709551615, .int .i64 7] 26)) (.cells #[.int .u64 0, .int .i64 3] 26)) (.cells #[.int .u64 0, .int .i64 4] 26)
    simpa using h⟩
  have BC0 : Aside0 ((((w.alloc (.cells #[.int .u64 18446744073709551615, .int .i64 7] 26)).alloc (.cells #[.int .u64 0, .int .i64 3] 26)).alloc (.cells #[.int .u64 0, .int .i64 4] 26)).heap[w.heap.size + 1 + 1]? = some (.cells #[.int .u64 0, .int .i64 4] 26 (0, 0))) := ⟨by
    have h := blk_new ((w.alloc (.cells #[.int .u64 18446744073709551615, .int .i64 7] 26)).alloc (.cells #[.int .u64 0, .int .i64 3] 26)) (.cells #[.int .u64 0, .int .i64 4] 26)
    simpa using h⟩
  have HB0 := Aside0.mk (below_alloc (below_alloc (below_alloc (Below.refl w.heap.size w) (.cells #[.int .u64 18446744073709551615, .int .i64 7] 26)) (.cells #[.int .u64 0, .int .i64 3] 26)) (.cells #[.int .u64 0, .int .i64 4] 26))
  go_enter Try.func9, Try.ntmps9
  go_upto_region 2 with (fail)
  generalize ((w.alloc (.cells #[.int .u64 18446744073709551615, .int .i64 7] 26)).alloc (.cells #[.int .u64 0, .int .i64 3] 26)).alloc (.cells #[.int .u64 0, .int .i64 4] 26) = w0 at BA0 BB0 BC0 HB0 ⊢
  have cBA0 := (blk_cell BA0.out 0).trans rfl
  have cBA1 := (blk_cell BA0.out 1).trans rfl
  have cBB0 := (blk_cell BB0.out 0).trans rfl
  have cBB1 := (blk_cell BB0.out 1).trans rfl
  have cBC0 := (blk_cell BC0.out 0).trans rfl
  have cBC1 := (blk_cell BC0.out 1).trans rfl
  go_upto_region 3 with (first | ((with_reducible refine gate_dst (N := 21) rfl ?_); (try (refine gate_guard (by rfl) ?_; dsimp only)); refine C_lit_ k26 26 ?hg (N := 21) ?hd (xs := [aw_c, aw_b, aw_a]) (inner := [.int .u64 0, .int .i64 4, .int .u64 0, .int .i64 3, .int .u64 18446744073709551615, .int .i64 7]) ?hr ?hp (by simp) ?_; (case hd => rfl); (case hg => rfl); (case hr => first | (go_simp; done) | (go_simp; rfl)); (case hp => exact (Reps.c2 (show Kd.K k26 _ aw_c [.int .u64 0, .int .i64 4] from k26_mk _ aw_c) (Reps.c2 (show Kd.K k26 _ aw_b [.int .u64 0, .int .i64 3] from k26_mk _ aw_b) (Reps.c2 (show Kd.K k26 _ aw_a [.int .u64 18446744073709551615, .int .i64 7] from k26_mk _ aw_a) (Reps.none _ _))))); rw [← Hcba.out]; intro Ax cx w1 hC hc hb; have Cx1 := Aside0.mk hC; have Lx := Aside0.mk hc; have BA1 := Aside0.mk (blk_below BA0.out hb); have BB1 := Aside0.mk (blk_below BB0.out hb); have BC1 := Aside0.mk (blk_below BC0.out hb); have HB1 := Aside0.mk (below_step HB0.out hb); clear cBA0 cBA1 cBB0 cBB1 cBC0 cBC1 HB0 BA0 BB0 BC0; have cBA0 := (blk_cell BA1.out 0).trans rfl; have cBA1 := (blk_cell BA1.out 1).trans rfl; have cBB0 := (blk_cell BB1.out 0).trans rfl; have cBB1 := (blk_cell BB1.out 1).trans rfl; have cBC0 := (blk_cell BC1.out 0).trans rfl; have cBC1 := (blk_cell BC1.out 1).trans rfl; clear hC hc hb) | (go_at_call 17; (with_reducible refine (key_Sort.calls 18446744073709551611 Ax cx cba abc  _ Cx1.out Lx.out E1.out).mono ?_); rintro e w2 ⟨v0, rfl, hR, hb⟩; obtain ⟨Al, cl, rfl⟩ := Kd.R_slice hR; have Cl2 := Aside0.mk (Kd.R_reads' hR).2.2; have Ll := Aside0.mk (Kd.R_reads' hR).2.1; have BA2 := Aside0.mk (blk_below BA1.out hb); have BB2 := Aside0.mk (blk_below BB1.out hb); have BC2 := Aside0.mk (blk_below BC1.out hb); have Cx2 := Aside0.mk (Kd.C_below Cx1.out hb); have HB2 := Aside0.mk (below_step HB1.out hb); clear cBA0 cBA1 cBB0 cBB1 cBC0 cBC1 HB1 BA1 BB1 BC1 Cx1; have cBA0 := (blk_cell BA2.out 0).trans rfl; have cBA1 := (blk_cell BA2.out 1).trans rfl; have cBB0 := (blk_cell BB2.out 0).trans rfl; have cBB1 := (blk_cell BB2.out 1).trans rfl; have cBC0 := (blk_cell BC2.out 0).trans rfl; have cBC1 := (blk_cell BC2.out 1).trans rfl; clear hb hR))
  go_upto_region 4 with (first | ((with_reducible refine gate_dst (N := 26) rfl ?_); (try (refine gate_guard (by rfl) ?_; dsimp only)); refine C_lit_ k26 26 ?hg (N := 26) ?hd (xs := [aw_a, aw_c]) (inner := [.int .u64 18446744073709551615, .int .i64 7, .int .u64 0, .int .i64 4]) ?hr ?hp (by simp) ?_; (case hd => rfl); (case hg => rfl); (case hr => first | (go_simp; done) | (go_simp; rfl)); (case hp => exact (Reps.c2 (show Kd.K k26 _ aw_a [.int .u64 18446744073709551615, .int .i64 7] from k26_mk _ aw_a) (Reps.c2 (show Kd.K k26 _ aw_c [.int .u64 0, .int .i64 4] from k26_mk _ aw_c) (Reps.none _ _)))); rw [← Hac.out]; intro Ay cy w3 hC hc hb; have Cy3 := Aside0.mk hC; have Ly := Aside0.mk hc; have BA3 := Aside0.mk (blk_below BA2.out hb); have BB3 := Aside0.mk (blk_below BB2.out hb); have BC3 := Aside0.mk (blk_below BC2.out hb); have Cx3 := Aside0.mk (Kd.C_below Cx2.out hb); have Cl3 := Aside0.mk (Kd.C_below Cl2.out hb); have HB3 := Aside0.mk (below_step HB2.out hb); clear cBA0 cBA1 cBB0 cBB1 cBC0 cBC1 HB2 BA2 BB2 BC2 Cx2 Cl2; have cBA0 := (blk_cell BA3.out 0).trans rfl; have cBA1 := (blk_cell BA3.out 1).trans rfl; have cBB0 := (blk_cell BB3.out 0).trans rfl; have cBB1 := (blk_cell BB3.out 1).trans rfl; have cBC0 := (blk_cell BC3.out 0).trans rfl; have cBC1 := (blk_cell BC3.out 1).trans rfl; clear hC hc hb) | (go_at_call 19; (with_reducible refine (key_Put.calls 18446744073709551611 Ay cy ac 0 3 abc 0  _ Cy3.out Ly.out E2.out).mono ?_); rintro e w4 ⟨v0, rfl, hR, hb⟩; obtain ⟨Am, cm, rfl⟩ := Kd.R_slice hR; have Cm4 := Aside0.mk (Kd.R_reads' hR).2.2; have Lm := Aside0.mk (Kd.R_reads' hR).2.1; have BA4 := Aside0.mk (blk_below BA3.out hb); have BB4 := Aside0.mk (blk_below BB3.out hb); have BC4 := Aside0.mk (blk_below BC3.out hb); have Cx4 := Aside0.mk (Kd.C_below Cx3.out hb); have Cl4 := Aside0.mk (Kd.C_below Cl3.out hb); have Cy4 := Aside0.mk (Kd.C_below Cy3.out hb); have HB4 := Aside0.mk (below_step HB3.out hb); clear cBA0 cBA1 cBB0 cBB1 cBC0 cBC1 HB3 BA3 BB3 BC3 Cx3 Cl3 Cy3; have cBA0 := (blk_cell BA4.out 0).trans rfl; have cBA1 := (blk_cell BA4.out 1).trans rfl; have cBB0 := (blk_cell BB4.out 0).trans rfl; have cBB1 := (blk_cell BB4.out 1).trans rfl; have cBC0 := (blk_cell BC4.out 0).trans rfl; have cBC1 := (blk_cell BC4.out 1).trans rfl; clear hb hR))
  go_upto_region 5 with (first | (go_at_call 19; (with_reducible refine (key_Put.calls 18446744073709551611 Al cl abc 0 3 nl 1  _ Cl4.out Ll.out E3.out).mono ?_); rintro e w5 ⟨v0, rfl, hR, hb⟩; obtain ⟨Az, cz, rfl⟩ := Kd.R_slice hR; have Cz5 := Aside0.mk (Kd.R_reads' hR).2.2; have Lz := Aside0.mk (Kd.R_reads' hR).2.1; have BA5 := Aside0.mk (blk_below BA4.out hb); have BB5 := Aside0.mk (blk_below BB4.out hb); have BC5 := Aside0.mk (blk_below BC4.out hb); have Cx5 := Aside0.mk (Kd.C_below Cx4.out hb); have Cl5 := Aside0.mk (Kd.C_below Cl4.out hb); have Cy5 := Aside0.mk (Kd.C_below Cy4.out hb); have Cm5 := Aside0.mk (Kd.C_below Cm4.out hb); have HB5 := Aside0.mk (below_step HB4.out hb); clear cBA0 cBA1 cBB0 cBB1 cBC0 cBC1 HB4 BA4 BB4 BC4 Cx4 Cl4 Cy4 Cm4; have cBA0 := (blk_cell BA5.out 0).trans rfl; have cBA1 := (blk_cell BA5.out 1).trans rfl; have cBB0 := (blk_cell BB5.out 0).trans rfl; have cBB1 := (blk_cell BB5.out 1).trans rfl; have cBC0 := (blk_cell BC5.out 0).trans rfl; have cBC1 := (blk_cell BC5.out 1).trans rfl; clear hb hR))
  go_upto_region 6 with (first | (go_at_call 21; (with_reducible refine (key_Drop.calls 18446744073709551611 Al cl abc 3 ac 0  _ Cl5.out Ll.out E4.out).mono ?_); rintro e w6 ⟨v0, rfl, hR, hb⟩; obtain ⟨An, cn, rfl⟩ := Kd.R_slice hR; have Cn6 := Aside0.mk (Kd.R_reads' hR).2.2; have Ln := Aside0.mk (Kd.R_reads' hR).2.1; have BA6 := Aside0.mk (blk_below BA5.out hb); have BB6 := Aside0.mk (blk_below BB5.out hb); have BC6 := Aside0.mk (blk_below BC5.out hb); have Cx6 := Aside0.mk (Kd.C_below Cx5.out hb); have Cl6 := Aside0.mk (Kd.C_below Cl5.out hb); have Cy6 := Aside0.mk (Kd.C_below Cy5.out hb); have Cm6 := Aside0.mk (Kd.C_below Cm5.out hb); have Cz6 := Aside0.mk (Kd.C_below Cz5.out hb); have HB6 := Aside0.mk (below_step HB5.out hb); clear cBA0 cBA1 cBB0 cBB1 cBC0 cBC1 HB5 BA5 BB5 BC5 Cx5 Cl5 Cy5 Cm5 Cz5; have cBA0 := (blk_cell BA6.out 0).trans rfl; have cBA1 := (blk_cell BA6.out 1).trans rfl; have cBB0 := (blk_cell BB6.out 0).trans rfl; have cBB1 := (blk_cell BB6.out 1).trans rfl; have cBC0 := (blk_cell BC6.out 0).trans rfl; have cBC1 := (blk_cell BC6.out 1).trans rfl; clear hb hR))
  go_upto_region 7 with (first | (go_at_call 21; (with_reducible refine (key_Drop.calls 0 Al cl abc 3 ac 0  _ Cl6.out Ll.out E5.out).mono ?_); rintro e w7 ⟨v0, rfl, hR, hb⟩; obtain ⟨Au, cu, rfl⟩ := Kd.R_slice hR; have Cu7 := Aside0.mk (Kd.R_reads' hR).2.2; have Lu := Aside0.mk (Kd.R_reads' hR).2.1; have BA7 := Aside0.mk (blk_below BA6.out hb); have BB7 := Aside0.mk (blk_below BB6.out hb); have BC7 := Aside0.mk (blk_below BC6.out hb); have Cx7 := Aside0.mk (Kd.C_below Cx6.out hb); have Cl7 := Aside0.mk (Kd.C_below Cl6.out hb); have Cy7 := Aside0.mk (Kd.C_below Cy6.out hb); have Cm7 := Aside0.mk (Kd.C_below Cm6.out hb); have Cz7 := Aside0.mk (Kd.C_below Cz6.out hb); have Cn7 := Aside0.mk (Kd.C_below Cn6.out hb); have HB7 := Aside0.mk (below_step HB6.out hb); clear cBA0 cBA1 cBB0 cBB1 cBC0 cBC1 HB6 BA6 BB6 BC6 Cx6 Cl6 Cy6 Cm6 Cz6 Cn6; have cBA0 := (blk_cell BA7.out 0).trans rfl; have cBA1 := (blk_cell BA7.out 1).trans rfl; have cBB0 := (blk_cell BB7.out 0).trans rfl; have cBB1 := (blk_cell BB7.out 1).trans rfl; have cBC0 := (blk_cell BC7.out 0).trans rfl; have cBC1 := (blk_cell BC7.out 1).trans rfl; clear hb hR))
  go_upto_region 8 with (first | (go_at_call 10; (with_reducible refine (key_First.calls 0 Al cl abc 18446744073709551615 7 true  _ Cl7.out Ll.out E6.out).mono ?_); rintro e w8 ⟨rfl, hb0⟩; have hb : Below w7.heap.size w7 w8 := hb0; have BA8 := Aside0.mk (blk_below BA7.out hb); have BB8 := Aside0.mk (blk_below BB7.out hb); have BC8 := Aside0.mk (blk_below BC7.out hb); have Cx8 := Aside0.mk (Kd.C_below Cx7.out hb); have Cl8 := Aside0.mk (Kd.C_below Cl7.out hb); have Cy8 := Aside0.mk (Kd.C_below Cy7.out hb); have Cm8 := Aside0.mk (Kd.C_below Cm7.out hb); have Cz8 := Aside0.mk (Kd.C_below Cz7.out hb); have Cn8 := Aside0.mk (Kd.C_below Cn7.out hb); have Cu8 := Aside0.mk (Kd.C_below Cu7.out hb); have HB8 := Aside0.mk (below_step HB7.out hb); clear cBA0 cBA1 cBB0 cBB1 cBC0 cBC1 HB7 BA7 BB7 BC7 Cx7 Cl7 Cy7 Cm7 Cz7 Cn7 Cu7; have cBA0 := (blk_cell BA8.out 0).trans rfl; have cBA1 := (blk_cell BA8.out 1).trans rfl; have cBB0 := (blk_cell BB8.out 0).trans rfl; have cBB1 := (blk_cell BB8.out 1).trans rfl; have cBC0 := (blk_cell BC8.out 0).trans rfl; have cBC1 := (blk_cell BC8.out 1).trans rfl; clear hb hb0))
  have BD9 : Aside0 ((w8.alloc (.cells #[.int .u64 18446744073709551615, .int .i64 7] 26)).heap[w8.heap.size]? = some (.cells #[.int .u64 18446744073709551615, .int .i64 7] 26 (0, 0))) := ⟨blk_new w8 _⟩
  have hb := below_alloc (Below.refl w8.heap.size w8) (.cells #[.int .u64 18446744073709551615, .int .i64 7] 26)
  have BA9 := Aside0.mk (blk_below BA8.out hb)
  have BB9 := Aside0.mk (blk_below BB8.out hb)
  have BC9 := Aside0.mk (blk_below BC8.out hb)
  have Cx9 := Aside0.mk (Kd.C_below Cx8.out hb)
  have Cl9 := Aside0.mk (Kd.C_below Cl8.out hb)
  have Cy9 := Aside0.mk (Kd.C_below Cy8.out hb)
  have Cm9 := Aside0.mk (Kd.C_below Cm8.out hb)
  have Cz9 := Aside0.mk (Kd.C_below Cz8.out hb)
  have Cn9 := Aside0.mk (Kd.C_below Cn8.out hb)
  have Cu9 := Aside0.mk (Kd.C_below Cu8.out hb)
  have HB9 := Aside0.mk (below_step HB8.out hb)
  clear cBA0 cBA1 cBB0 cBB1 cBC0 cBC1 HB8 BA8 BB8 BC8 Cx8 Cl8 Cy8 Cm8 Cz8 Cn8 Cu8
  generalize hw9 : w8.alloc (.cells #[.int .u64 18446744073709551615, .int .i64 7] 26) = w9 at BD9 BA9 BB9 BC9 Cx9 Cl9 Cy9 Cm9 Cz9 Cn9 Cu9 HB9 hb ⊢
  generalize w8.heap.size = gd at BD9 ⊢
  clear hb hw9
  have cBA0 := (blk_cell BA9.out 0).trans rfl
  have cBA1 := (blk_cell BA9.out 1).trans rfl
  have cBB0 := (blk_cell BB9.out 0).trans rfl
  have cBB1 := (blk_cell BB9.out 1).trans rfl
  have cBC0 := (blk_cell BC9.out 0).trans rfl
  have cBC1 := (blk_cell BC9.out 1).trans rfl
  have cBD0 := (blk_cell BD9.out 0).trans rfl
  have cBD1 := (blk_cell BD9.out 1).trans rfl
  go_wp2_with (first | ((with_reducible refine gate_dst (N := 56) rfl ?_); (try (refine gate_guard (by rfl) ?_; dsimp only)); refine C_lit_ k26 26 ?hg (N := 56) ?hd (xs := [aw_a, aw_b, aw_c]) (inner := [.int .u64 18446744073709551615, .int .i64 7, .int .u64 0, .int .i64 3, .int .u64 0, .int .i64 4]) ?hr ?hp (by simp) ?_; (case hd => rfl); (case hg => rfl); (case hr => first | (go_simp; done) | (go_simp; rfl)); (case hp => exact (Reps.c2 (show Kd.K k26 _ aw_a [.int .u64 18446744073709551615, .int .i64 7] from k26_mk _ aw_a) (Reps.c2 (show Kd.K k26 _ aw_b [.int .u64 0, .int .i64 3] from k26_mk _ aw_b) (Reps.c2 (show Kd.K k26 _ aw_c [.int .u64 0, .int .i64 4] from k26_mk _ aw_c) (Reps.none _ _))))); rw [← Habc.out]; intro Ap cp w10 hC hc hb; have Cp10 := Aside0.mk hC; have Lp := Aside0.mk hc; have BA10 := Aside0.mk (blk_below BA9.out hb); have BB10 := Aside0.mk (blk_below BB9.out hb); have BC10 := Aside0.mk (blk_below BC9.out hb); have BD10 := Aside0.mk (blk_below BD9.out hb); have Cx10 := Aside0.mk (Kd.C_below Cx9.out hb); have Cl10 := Aside0.mk (Kd.C_below Cl9.out hb); have Cy10 := Aside0.mk (Kd.C_below Cy9.out hb); have Cm10 := Aside0.mk (Kd.C_below Cm9.out hb); have Cz10 := Aside0.mk (Kd.C_below Cz9.out hb); have Cn10 := Aside0.mk (Kd.C_below Cn9.out hb); have Cu10 := Aside0.mk (Kd.C_below Cu9.out hb); have HB10 := Aside0.mk (below_step HB9.out hb); clear cBA0 cBA1 cBB0 cBB1 cBC0 cBC1 cBD0 cBD1 HB9 BA9 BB9 BC9 BD9 Cx9 Cl9 Cy9 Cm9 Cz9 Cn9 Cu9; have cBA0 := (blk_cell BA10.out 0).trans rfl; have cBA1 := (blk_cell BA10.out 1).trans rfl; have cBB0 := (blk_cell BB10.out 0).trans rfl; have cBB1 := (blk_cell BB10.out 1).trans rfl; have cBC0 := (blk_cell BC10.out 0).trans rfl; have cBC1 := (blk_cell BC10.out 1).trans rfl; have cBD0 := (blk_cell BD10.out 0).trans rfl; have cBD1 := (blk_cell BD10.out 1).trans rfl; clear hC hc hb) | (go_at_call 16; (with_reducible refine (turnspitref08_Same.calls 5 Al cl abc Ap cp abc true  _ Cl10.out Ll.out Cp10.out Lp.out E7.out).mono ?_); rintro e w11 ⟨rfl, hb0⟩; have hb : Below w10.heap.size w10 w11 := hb0.below; have BA11 := Aside0.mk (blk_below BA10.out hb); have BB11 := Aside0.mk (blk_below BB10.out hb); have BC11 := Aside0.mk (blk_below BC10.out hb); have BD11 := Aside0.mk (blk_below BD10.out hb); have Cx11 := Aside0.mk (Kd.C_below Cx10.out hb); have Cl11 := Aside0.mk (Kd.C_below Cl10.out hb); have Cy11 := Aside0.mk (Kd.C_below Cy10.out hb); have Cm11 := Aside0.mk (Kd.C_below Cm10.out hb); have Cz11 := Aside0.mk (Kd.C_below Cz10.out hb); have Cn11 := Aside0.mk (Kd.C_below Cn10.out hb); have Cu11 := Aside0.mk (Kd.C_below Cu10.out hb); have Cp11 := Aside0.mk (Kd.C_below Cp10.out hb); have HB11 := Aside0.mk (below_step HB10.out hb); clear cBA0 cBA1 cBB0 cBB1 cBC0 cBC1 cBD0 cBD1 HB10 BA10 BB10 BC10 BD10 Cx10 Cl10 Cy10 Cm10 Cz10 Cn10 Cu10 Cp10; have cBA0 := (blk_cell BA11.out 0).trans rfl; have cBA1 := (blk_cell BA11.out 1).trans rfl; have cBB0 := (blk_cell BB11.out 0).trans rfl; have cBB1 := (blk_cell BB11.out 1).trans rfl; have cBC0 := (blk_cell BC11.out 0).trans rfl; have cBC1 := (blk_cell BC11.out 1).trans rfl; have cBD0 := (blk_cell BD11.out 0).trans rfl; have cBD1 := (blk_cell BD11.out 1).trans rfl; clear hb hb0) | (go_at_call 16; (with_reducible refine (turnspitref08_Same.calls 5 Am cm abc Al cl abc true  _ Cm11.out Lm.out Cl11.out Ll.out E7.out).mono ?_); rintro e w12 ⟨rfl, hb0⟩; have hb : Below w11.heap.size w11 w12 := hb0.below; have BA12 := Aside0.mk (blk_below BA11.out hb); have BB12 := Aside0.mk (blk_below BB11.out hb); have BC12 := Aside0.mk (blk_below BC11.out hb); have BD12 := Aside0.mk (blk_below BD11.out hb); have Cx12 := Aside0.mk (Kd.C_below Cx11.out hb); have Cl12 := Aside0.mk (Kd.C_below Cl11.out hb); have Cy12 := Aside0.mk (Kd.C_below Cy11.out hb); have Cm12 := Aside0.mk (Kd.C_below Cm11.out hb); have Cz12 := Aside0.mk (Kd.C_below Cz11.out hb); have Cn12 := Aside0.mk (Kd.C_below Cn11.out hb); have Cu12 := Aside0.mk (Kd.C_below Cu11.out hb); have Cp12 := Aside0.mk (Kd.C_below Cp11.out hb); have HB12 := Aside0.mk (below_step HB11.out hb); clear cBA0 cBA1 cBB0 cBB1 cBC0 cBC1 cBD0 cBD1 HB11 BA11 BB11 BC11 BD11 Cx11 Cl11 Cy11 Cm11 Cz11 Cn11 Cu11 Cp11; have cBA0 := (blk_cell BA12.out 0).trans rfl; have cBA1 := (blk_cell BA12.out 1).trans rfl; have cBB0 := (blk_cell BB12.out 0).trans rfl; have cBB1 := (blk_cell BB12.out 1).trans rfl; have cBC0 := (blk_cell BC12.out 0).trans rfl; have cBC1 := (blk_cell BC12.out 1).trans rfl; have cBD0 := (blk_cell BD12.out 0).trans rfl; have cBD1 := (blk_cell BD12.out 1).trans rfl; clear hb hb0) | ((with_reducible refine gate_dst (N := 75) rfl ?_); (try (refine gate_guard (by rfl) ?_; dsimp only)); refine C_lit_ k26 26 ?hg (N := 75) ?hd (xs := [aw_a, aw_c]) (inner := [.int .u64 18446744073709551615, .int .i64 7, .int .u64 0, .int .i64 4]) ?hr ?hp (by simp) ?_; (case hd => rfl); (case hg => rfl); (case hr => first | (go_simp; done) | (go_simp; rfl)); (case hp => exact (Reps.c2 (show Kd.K k26 _ aw_a [.int .u64 18446744073709551615, .int .i64 7] from k26_mk _ aw_a) (Reps.c2 (show Kd.K k26 _ aw_c [.int .u64 0, .int .i64 4] from k26_mk _ aw_c) (Reps.none _ _)))); rw [← Hac.out]; intro Aq cq w13 hC hc hb; have Cq13 := Aside0.mk hC; have Lq := Aside0.mk hc; have BA13 := Aside0.mk (blk_below BA12.out hb); have BB13 := Aside0.mk (blk_below BB12.out hb); have BC13 := Aside0.mk (blk_below BC12.out hb); have BD13 := Aside0.mk (blk_below BD12.out hb); have Cx13 := Aside0.mk (Kd.C_below Cx12.out hb); have Cl13 := Aside0.mk (Kd.C_below Cl12.out hb); have Cy13 := Aside0.mk (Kd.C_below Cy12.out hb); have Cm13 := Aside0.mk (Kd.C_below Cm12.out hb); have Cz13 := Aside0.mk (Kd.C_below Cz12.out hb); have Cn13 := Aside0.mk (Kd.C_below Cn12.out hb); have Cu13 := Aside0.mk (Kd.C_below Cu12.out hb); have Cp13 := Aside0.mk (Kd.C_below Cp12.out hb); have HB13 := Aside0.mk (below_step HB12.out hb); clear cBA0 cBA1 cBB0 cBB1 cBC0 cBC1 cBD0 cBD1 HB12 BA12 BB12 BC12 BD12 Cx12 Cl12 Cy12 Cm12 Cz12 Cn12 Cu12 Cp12; have cBA0 := (blk_cell BA13.out 0).trans rfl; have cBA1 := (blk_cell BA13.out 1).trans rfl; have cBB0 := (blk_cell BB13.out 0).trans rfl; have cBB1 := (blk_cell BB13.out 1).trans rfl; have cBC0 := (blk_cell BC13.out 0).trans rfl; have cBC1 := (blk_cell BC13.out 1).trans rfl; have cBD0 := (blk_cell BD13.out 0).trans rfl; have cBD1 := (blk_cell BD13.out 1).trans rfl; clear hC hc hb) | (go_at_call 16; (with_reducible refine (turnspitref08_Same.calls 5 An cn ac Aq cq ac true  _ Cn13.out Ln.out Cq13.out Lq.out E8.out).mono ?_); rintro e w14 ⟨rfl, hb0⟩; have hb : Below w13.heap.size w13 w14 := hb0.below; have BA14 := Aside0.mk (blk_below BA13.out hb); have BB14 := Aside0.mk (blk_below BB13.out hb); have BC14 := Aside0.mk (blk_below BC13.out hb); have BD14 := Aside0.mk (blk_below BD13.out hb); have Cx14 := Aside0.mk (Kd.C_below Cx13.out hb); have Cl14 := Aside0.mk (Kd.C_below Cl13.out hb); have Cy14 := Aside0.mk (Kd.C_below Cy13.out hb); have Cm14 := Aside0.mk (Kd.C_below Cm13.out hb); have Cz14 := Aside0.mk (Kd.C_below Cz13.out hb); have Cn14 := Aside0.mk (Kd.C_below Cn13.out hb); have Cu14 := Aside0.mk (Kd.C_below Cu13.out hb); have Cp14 := Aside0.mk (Kd.C_below Cp13.out hb); have Cq14 := Aside0.mk (Kd.C_below Cq13.out hb); have HB14 := Aside0.mk (below_step HB13.out hb); clear cBA0 cBA1 cBB0 cBB1 cBC0 cBC1 cBD0 cBD1 HB13 BA13 BB13 BC13 BD13 Cx13 Cl13 Cy13 Cm13 Cz13 Cn13 Cu13 Cp13 Cq13; have cBA0 := (blk_cell BA14.out 0).trans rfl; have cBA1 := (blk_cell BA14.out 1).trans rfl; have cBB0 := (blk_cell BB14.out 0).trans rfl; have cBB1 := (blk_cell BB14.out 1).trans rfl; have cBC0 := (blk_cell BC14.out 0).trans rfl; have cBC1 := (blk_cell BC14.out 1).trans rfl; have cBD0 := (blk_cell BD14.out 0).trans rfl; have cBD1 := (blk_cell BD14.out 1).trans rfl; clear hb hb0) | (go_at_call 14; (with_reducible refine (key_Sorted.calls 18446744073709551611 Al cl abc true  _ Cl14.out Ll.out E9.out).mono ?_); rintro e w15 ⟨rfl, hb0⟩; have hb : Below w14.heap.size w14 w15 := hb0; have BA15 := Aside0.mk (blk_below BA14.out hb); have BB15 := Aside0.mk (blk_below BB14.out hb); have BC15 := Aside0.mk (blk_below BC14.out hb); have BD15 := Aside0.mk (blk_below BD14.out hb); have Cx15 := Aside0.mk (Kd.C_below Cx14.out hb); have Cl15 := Aside0.mk (Kd.C_below Cl14.out hb); have Cy15 := Aside0.mk (Kd.C_below Cy14.out hb); have Cm15 := Aside0.mk (Kd.C_below Cm14.out hb); have Cz15 := Aside0.mk (Kd.C_below Cz14.out hb); have Cn15 := Aside0.mk (Kd.C_below Cn14.out hb); have Cu15 := Aside0.mk (Kd.C_below Cu14.out hb); have Cp15 := Aside0.mk (Kd.C_below Cp14.out hb); have Cq15 := Aside0.mk (Kd.C_below Cq14.out hb); have HB15 := Aside0.mk (below_step HB14.out hb); clear cBA0 cBA1 cBB0 cBB1 cBC0 cBC1 cBD0 cBD1 HB14 BA14 BB14 BC14 BD14 Cx14 Cl14 Cy14 Cm14 Cz14 Cn14 Cu14 Cp14 Cq14; have cBA0 := (blk_cell BA15.out 0).trans rfl; have cBA1 := (blk_cell BA15.out 1).trans rfl; have cBB0 := (blk_cell BB15.out 0).trans rfl; have cBB1 := (blk_cell BB15.out 1).trans rfl; have cBC0 := (blk_cell BC15.out 0).trans rfl; have cBC1 := (blk_cell BC15.out 1).trans rfl; have cBD0 := (blk_cell BD15.out 0).trans rfl; have cBD1 := (blk_cell BD15.out 1).trans rfl; clear hb hb0) | (go_at_call 12; (with_reducible refine (key_Less.calls 5 18446744073709551611 18446744073709551615 7 0 3 true  _  E10.out).mono ?_); rintro e w16 ⟨rfl, hb0⟩; have hb : Below w15.heap.size w15 w16 := hb0; have BA16 := Aside0.mk (blk_below BA15.out hb); have BB16 := Aside0.mk (blk_below BB15.out hb); have BC16 := Aside0.mk (blk_below BC15.out hb); have BD16 := Aside0.mk (blk_below BD15.out hb); have Cx16 := Aside0.mk (Kd.C_below Cx15.out hb); have Cl16 := Aside0.mk (Kd.C_below Cl15.out hb); have Cy16 := Aside0.mk (Kd.C_below Cy15.out hb); have Cm16 := Aside0.mk (Kd.C_below Cm15.out hb); have Cz16 := Aside0.mk (Kd.C_below Cz15.out hb); have Cn16 := Aside0.mk (Kd.C_below Cn15.out hb); have Cu16 := Aside0.mk (Kd.C_below Cu15.out hb); have Cp16 := Aside0.mk (Kd.C_below Cp15.out hb); have Cq16 := Aside0.mk (Kd.C_below Cq15.out hb); have HB16 := Aside0.mk (below_step HB15.out hb); clear cBA0 cBA1 cBB0 cBB1 cBC0 cBC1 cBD0 cBD1 HB15 BA15 BB15 BC15 BD15 Cx15 Cl15 Cy15 Cm15 Cz15 Cn15 Cu15 Cp15 Cq15; have cBA0 := (blk_cell BA16.out 0).trans rfl; have cBA1 := (blk_cell BA16.out 1).trans rfl; have cBB0 := (blk_cell BB16.out 0).trans rfl; have cBB1 := (blk_cell BB16.out 1).trans rfl; have cBC0 := (blk_cell BC16.out 0).trans rfl; have cBC1 := (blk_cell BC16.out 1).trans rfl; have cBD0 := (blk_cell BD16.out 0).trans rfl; have cBD1 := (blk_cell BD16.out 1).trans rfl; clear hb hb0))
  go_ret
  exact ⟨rfl, HB16.out⟩


/-! ### turnspitlaw08_Made: function 23 -/
open Go.Proofs.Ytahnkldkbbkflaa.Ky Go.Proofs.Ytahnkldkbbkflaa.Srt Go.Proofs.Ytahnkldkbbkflaa.KC
def turnspitlaw08_Made.f (a0 : Int) (l1 : List Int) : Option (List S26) := if okU l1 = true then some ((madeK a0 l1).map fun k => ⟨k.1, k.2⟩) else none
theorem turnspitlaw08_Made.calls (a0 : Int) (A1 : Option Addr) (c1 : Nat) (l1 : List Int) (r : List S26) (w : World) (hr1 : Kd.C (Kd.int .u16) w A1 l1.length l1) (hc1 : l1.length ≤ c1) (h : turnspitlaw08_Made.f a0 l1 = some r) :
    Calls Try.prog 23 #[.int .u64 a0, .slice A1 l1.length c1] w fun e w' => ∃ v0_ : Value, e = .returned (v0_) ∧ Kd.R k26 26 w' w.heap.size (fun _ => True) v0_ r ∧ Below w.heap.size w w' := by
  unfold turnspitlaw08_Made.f at h
  by_cases c : okU l1 = true
  · rw [if_pos c] at h
    obtain rfl := Option.some.inj h
    refine (lawMade a0 A1 c1 l1 w hr1 c).mono ?_
    rintro e w' ⟨v0, rfl, hR, hb⟩
    exact ⟨v0, rfl, R_iso.2 (by rw [List.map_map, show ((fun s : S26 => (s.f0, s.f1)) ∘ fun k : K => (⟨k.1, k.2⟩ : S26)) = id from rfl, List.map_id]; exact hR), hb⟩
  · rw [if_neg c] at h
    cases h


end Go.Proofs.Ytahnkldkbbkflaa.QKeyMade
