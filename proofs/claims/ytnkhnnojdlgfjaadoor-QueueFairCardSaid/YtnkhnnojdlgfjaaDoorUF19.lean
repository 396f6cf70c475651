/- Parts of the proof, joined: Tm14. -/
import Derived.Test.YtnkhnnojdlgfjaaDoorUF16
import Derived.Laws.MakeOwn
namespace Go.Proofs.YtnkhnnojdlgfjaaDoor.Tm
open Go.RowKit Go Go.Proofs Go.Proofs.YtnkhnnojdlgfjaaDoor Go.Proofs.YtnkhnnojdlgfjaaDoor.Tr Go.Proofs.YtnkhnnojdlgfjaaDoorW.PrintWords Go.Proofs.YtnkhnnojdlgfjaaDoorW.PrintLast Go.Proofs.YtnkhnnojdlgfjaaDoorW.PrintMore
set_option linter.unusedVariables false
set_option linter.unusedSimpArgs false
theorem run_copy_sz {P : Program} (w : World) (dT sT ty elem : TypeId) (sz : Nat) (g o dLen dCap : Nat) (a : Addr) (sLen sCap : Nat) (cur : Array Value) (t : TypeId) (cs : List Value)
    (hu : P.underlying dT = some (.slice elem)) (hs : (P.info? elem).map (·.size) = some sz)
    (hg : w.heap[g]? = some (.cells cur t (0, 0))) (hn : cs.length = Nat.min sLen dLen * sz)
    (hsrc : ∀ j v, cs[j]? = some v → w.cell? (a.add j) = some v) (hfit : o + cs.length ≤ cur.size) (h1 : ∀ v ∈ cs, v.oneCell' = true) :
    (Builtin.copy_ #[dT, sT] ty #[.slice (some ⟨g, o, none⟩) dLen dCap, .slice (some a) sLen sCap]).run P w =
      .ok (goInt (Nat.min sLen dLen)) (w.setRow g (cur.toList.take o ++ cs ++ cur.toList.drop (o + cs.length)).toArray) := by
  have hl := run_loadCells_list (P := P) w a cs hsrc
  have hst := run_storeCells_at P g o t cs 0 cur w hg (by simpa using hfit) h1
  cases hq : P.info? elem with
  | none => simp [hq] at hs
  | some i =>
    have hi : i.size = sz := by simpa [hq] using hs
    simp [Builtin.copy_, run_underlying hu, Builtin.lenOf, Builtin.firstCells, sizeOf, typeInfo, hq, hi, ← hn, hl, hst]
theorem add_at (g o j : Nat) : (⟨g, o, none⟩ : Addr).add j = ⟨g, o + j, none⟩ := by unfold Addr.add; split <;> simp_all
theorem size57 : (Tryd.prog.info? 74).map (·.size) = some 6 := by kernel_rfl
def zN : Nd := ⟨false, false, 0, 0, 0, 0⟩
theorem made_flat (n : Nat) : (madeCells #[.bool false, .bool false, .int .u64 0, .int .i64 0, .int .i64 0, .int .i64 0] (n * 6)).toList = flat (List.replicate n zN) :=
  reps_flat (Kd.reps_made (R := fun (x : Nd) c => c = nv x) (z := Value.agg #[(.bool false), (.bool false), (.int .u64 0), (.int .i64 0), (.int .i64 0), (.int .i64 0)]) (size := 6) (z0 := zN) rfl (by omega) rfl n)
theorem run_make57 (n : Nat) (hn : n ≤ 64) (w : World) : (Instr.makeSlice 23 (.int .i64 (n : Int)) (.int .i64 (n : Int))).run Tryd.prog w = .ok (.slice (some ⟨w.heap.size, 0, none⟩) n n) (w.alloc (.cells (madeCells (Value.agg #[(.bool false), (.bool false), (.int .u64 0), (.int .i64 0), (.int .i64 0), (.int .i64 0)]).cells (n * 6)) 74)) := by
  obtain ⟨i, hi, hzz⟩ := Option.map_eq_some_iff.1 infoN
  simp only [Prod.mk.injEq] at hzz
  obtain ⟨hz, hs, hb⟩ := hzz
  have h := run_make (P := Tryd.prog) (w := w) 23 74 i _ Tryd.underlying23 hi hz .i64 .i64 (n : Int) (n : Int) (by omega) (Int.le_refl _) (by rw [hb]; omega) (by omega)
  rw [hs] at h
  simpa using h
theorem mul_f : ∀ n : Nat, n ≤ 64 → TC.bits_Mul.f 1 (n : Int) = some (0, (n : Int)) := by
  have h : ∀ n : Fin 65, TC.bits_Mul.f 1 (n.1 : Int) = some (0, (n.1 : Int)) := by decide
  intro n hn
  exact h ⟨n, by omega⟩
theorem nv_one (x : Nd) : ∀ v ∈ nv x, v.oneCell' = true := fun v hv => by
  simp only [nv, List.mem_cons, List.not_mem_nil, or_false] at hv
  rcases hv with rfl | rfl | rfl | rfl | rfl | rfl <;> rfl
theorem flat_one : ∀ (l : List Nd), ∀ v ∈ flat l, v.oneCell' = true
  | [], v, h => by cases h
  | x :: t, v, h => by
    rcases List.mem_append.1 h with h | h
    · exact nv_one x v h
    · exact flat_one t v h
structure Rw (w : World) (g n k : Nat) : Prop where mk ::
  out : ∃ cur : Array Value, w.heap[g]? = some (.cells cur 74 (0, 0)) ∧ cur.toList = flat (List.replicate k emp ++ List.replicate (n - k) zN)
theorem copy_list (n k m : Nat) (h : k + m ≤ n) : (flat (List.replicate k emp ++ List.replicate (n - k) zN)).take (k * 6) ++ flat (List.replicate m emp) ++ (flat (List.replicate k emp ++ List.replicate (n - k) zN)).drop (k * 6 + (flat (List.replicate m emp)).length) = flat (List.replicate (k + m) emp ++ List.replicate (n - (k + m)) zN) := by
  have e1 : (flat (List.replicate k emp)).length = k * 6 := by rw [flat_length, List.length_replicate]
  have e2 : List.replicate (n - k) zN = List.replicate m zN ++ List.replicate (n - (k + m)) zN := by rw [List.replicate_append_replicate]; congr 1; omega
  have e3 : (flat (List.replicate m emp)).length = (flat (List.replicate m zN)).length := by rw [flat_length, flat_length, List.length_replicate, List.length_replicate]
  rw [flat_append, List.take_append_of_le_length (by omega), ← e1, List.take_length, List.drop_length_add_append, e2, flat_append, e3, List.drop_left, ← List.replicate_append_replicate, flat_append, flat_append]
set_option maxHeartbeats 8000000 in
set_option maxRecDepth 100000 in
theorem Repeat_ (V : Nat) (n : Nat) (hn : n ≤ 64) (w : World) (hV : w.heap[V]? = some (.cells (nv emp).toArray 74 (0, 0))) :
    Calls Tryd.prog 42 #[.slice (some ⟨V, 0, none⟩) 1 1, .int .i64 n] w fun e w' => ∃ g, e = .returned (.slice (some ⟨g, 0, none⟩) n n) ∧ Rw w' g n n ∧ w.heap.size ≤ g ∧ Below w.heap.size w w' := by
  have HV := Aside0.mk hV
  have hmul := mul_f n hn
  have HM := Aside0.mk hmul
  have HN := Aside0.mk hn
  have hmk := run_make57 n hn
  have hd1 : ¬ (n : Int) < 0 := by omega
  clear hV hmul
  go_enter Tryd.func42, Tryd.ntmps42
  go_upto_region 7 with (go_at_call 72; refine (TC.bits_Mul.calls 1 (n : Int) 0 (n : Int) _ HM.out).mono ?_; rintro e w2 ⟨rfl, hb⟩; have HB2 := Aside0.mk (show Below w.heap.size w w2 from hb.below); clear hb)
  have HG3 := Aside0.mk (show w.heap.size ≤ w2.heap.size from HB2.out.size)
  have HB3 := Aside0.mk (below_alloc HB2.out (.cells (madeCells #[.bool false, .bool false, .int .u64 0, .int .i64 0, .int .i64 0, .int .i64 0] (n * 6)) 74))
  have HR3 : Aside0 (Rw (w2.alloc (.cells (madeCells #[.bool false, .bool false, .int .u64 0, .int .i64 0, .int .i64 0, .int .i64 0] (n * 6)) 74)) w2.heap.size n 0) := ⟨⟨_, blk_new w2 _, by have := made_flat n; simpa using this⟩⟩
  have HV3 := Aside0.mk (blk_below (blk_below HV.out HB2.out) (below_alloc (Below.refl _ _) (.cells (madeCells #[.bool false, .bool false, .int .u64 0, .int .i64 0, .int .i64 0, .int .i64 0] (n * 6)) 74)))
  clear hmk
  generalize w2.alloc (.cells (madeCells #[.bool false, .bool false, .int .u64 0, .int .i64 0, .int .i64 0, .int .i64 0] (n * 6)) 74) = w3 at HB3 HR3 HV3 ⊢
  generalize w2.heap.size = g at HG3 HR3 ⊢
  have step : ∀ (W : World) (k m : Nat), Rw W g n k → k + m ≤ n → Below w.heap.size w W → ∀ (a : Addr) (sLen sCap dCap : Nat), (∀ j v, (flat (List.replicate m emp))[j]? = some v → W.cell? (a.add j) = some v) → m = Nat.min sLen (n - k) →
      ∃ W2, (Builtin.copy_ #[23, 23] 3 #[.slice (some ⟨g, k * 6, none⟩) (n - k) dCap, .slice (some a) sLen sCap]).run Tryd.prog W = .ok (goInt m) W2 ∧ Rw W2 g n (k + m) ∧ Below w.heap.size w W2 := by
    intro W k m hR hkm hB a sLen sCap dCap hsrc hm
    obtain ⟨cur, h1, h2⟩ := hR.out
    have hsz : cur.size = n * 6 := by
      rw [← Array.length_toList, h2, flat_length, List.length_append, List.length_replicate, List.length_replicate]
      congr 1; omega
    have hrun := run_copy_sz (P := Tryd.prog) W 23 23 3 74 6 g (k * 6) (n - k) dCap a sLen sCap cur 74 (flat (List.replicate m emp)) Tryd.underlying23 size57 h1 (by rw [flat_length, List.length_replicate, ← hm]) hsrc (by rw [flat_length, List.length_replicate, hsz]; omega) (flat_one _)
    rw [← hm] at hrun
    refine ⟨_, hrun, ⟨_, setRow_heap W g cur _ 74 _ h1, ?_⟩, ?_⟩
    · rw [h2]
      exact copy_list n k m hkm
    · refine hB.trans ⟨rfl, rfl, rfl, by simp [World.setRow], fun q hq => setRow_other W g q _ (fun e => ?_)⟩
      have := HG3.out
      omega
  have STEP := Aside0.mk step
  clear step
  obtain ⟨m, hm1, hm0, w4, hrun, hR4, hB4⟩ : ∃ m, m ≤ n ∧ (m = 0 → n = 0) ∧ ∃ w4, (Builtin.copy_ #[23, 23] 3 #[.slice (some ⟨g, 0, none⟩) n n, .slice (some ⟨V, 0, none⟩) 1 1]).run Tryd.prog w3 = .ok (goInt m) w4 ∧ Rw w4 g n m ∧ Below w.heap.size w w4 := by
    rcases Nat.eq_zero_or_pos n with h0 | h0
    · obtain ⟨w4, hrun, hR4, hB4⟩ := STEP.out w3 0 0 HR3.out (by omega) HB3.out ⟨V, 0, none⟩ 1 1 n (fun j v hj => by simp [flat] at hj) (by rw [show Nat.min 1 (n - 0) = min 1 (n - 0) from rfl]; omega)
      rw [Nat.zero_mul, Nat.sub_zero] at hrun
      exact ⟨0, by omega, fun _ => h0, w4, hrun, hR4, hB4⟩
    · obtain ⟨w4, hrun, hR4, hB4⟩ := STEP.out w3 0 1 HR3.out (by omega) HB3.out ⟨V, 0, none⟩ 1 1 n (fun j v hj => by
        rw [add_at, Nat.zero_add, blk_cell HV3.out, ← Array.getElem?_toList]
        simpa [flat] using hj) (by rw [show Nat.min 1 (n - 0) = min 1 (n - 0) from rfl]; omega)
      rw [Nat.zero_mul, Nat.sub_zero] at hrun
      exact ⟨1, by omega, fun h => by omega, w4, hrun, hR4, hB4⟩
  have HR4 := Aside0.mk hR4
  have HB4 := Aside0.mk hB4
  have HM0 := Aside0.mk hm0
  clear hR4 hB4 hm0
  go_upto_region 8 with (fail)
  clear hrun
  go_loopw [8] (fun i wr => ∃ k : Nat, k ≤ n ∧ i = .int .i64 k ∧ Aside0 (k = 0 → n = 0) ∧ Aside0 (Rw wr g n k) ∧ Aside0 (Below w.heap.size w wr)) (fun i _ => n - (intOf i).toNat)
  case atStart => exact ⟨m, hm1, rfl, HM0, HR4, HB4⟩
  case round =>
    clear HM0 HR4 HB4 hm1
    obtain ⟨k, hk, rfl, HK0, HR5, HB5⟩ := hrel
    by_cases hlt : k < n
    · have hk1 : 1 ≤ k := by
        rcases Nat.eq_zero_or_pos k with h | h
        · have := HK0.out h; omega
        · exact h
      obtain ⟨q, hq⟩ : ∃ q, q = Nat.min k (n - k) := ⟨_, rfl⟩
      have hq2 : q = min k (n - k) := hq
      obtain ⟨w6, hrun, hR6, hB6⟩ := STEP.out wr.drew k q ⟨HR5.out.out⟩ (by omega) (Below.drew HB5.out) ⟨g, 0, none⟩ k n (n - k) (fun j v hj => by
        obtain ⟨cur, h1, h2⟩ := HR5.out.out
        have hjl : j < q * 6 := by
          have := (List.getElem?_eq_some_iff.1 hj).1
          rwa [flat_length, List.length_replicate] at this
        show wr.cell? _ = _
        rw [add_at, Nat.zero_add, blk_cell h1, ← Array.getElem?_toList, h2, flat_append, List.getElem?_append_left (by rw [flat_length, List.length_replicate]; omega)]
        have e : List.replicate k emp = List.replicate q emp ++ List.replicate (k - q) emp := by rw [List.replicate_append_replicate]; congr 1; omega
        rw [e, flat_append, List.getElem?_append_left (by rw [flat_length, List.length_replicate]; exact hjl)]
        exact hj) hq
      have HR6 := Aside0.mk hR6
      have HB6 := Aside0.mk hB6
      have HQ := Aside0.mk hq2
      have n1 : (k : Int) < (n : Int) := by omega
      have n2 : (k : Int) ≤ (n : Int) := by omega
      have n3 : (0 : Int) ≤ (k : Int) := by omega
      have n4 : ¬ n = k := by omega
      clear hR6 hB6 hq hq2
      have HN4 := Aside0.mk n4
      have HLT := Aside0.mk hlt
      have hq3 : (q : Int) ≤ (n : Int) := by have := HQ.out; omega
      go_upto_region 9 with (fail)
      go_region
      go_wp2
      refine ⟨⟨k + q, by have := HQ.out; omega, by simp, ⟨fun h => by omega⟩, HR6, HB6⟩, ?_⟩
      have h1 := HQ.out
      have h2 := HLT.out
      show n - ((k : Int) + (q : Int)).toNat < n - (k : Int).toNat
      omega
    · obtain rfl : k = n := by omega
      go_wp2
      go_ret
      exact ⟨g, rfl, HR5.out, HG3.out, HB5.out⟩
def newA (n : Int) : St × Int := if n < 0 ∨ 64 < n then (⟨[], 0⟩, 1) else (⟨List.replicate n.toNat emp, -1⟩, 0)
set_option maxHeartbeats 8000000 in
set_option maxRecDepth 100000 in
theorem New_ (n : Int) (w : World) (hT : Emp w) : Calls Tryd.prog 15 #[.int .i64 n] w fun e w' => TPost w (newA n) e w' := by
  have HT := Aside0.mk hT
  have HB1 := Aside0.mk (below_alloc (Below.refl w.heap.size w) (.cells #[.int .i64 0, .slice none 0 0] 25))
  have HZ1 := Aside0.mk (blk_new w (.cells #[.int .i64 0, .slice none 0 0] 25))
  clear hT
  go_enter Tryd.func15, Tryd.ntmps15
  go_upto_region 1 with (fail)
  have HS1 := Aside0.mk (show w.heap.size < (w.alloc (.cells #[.int .i64 0, .slice none 0 0] 25)).heap.size by simp)
  generalize w.alloc (.cells #[.int .i64 0, .slice none 0 0] 25) = W1 at HB1 HZ1 HS1 ⊢
  have f0 := blk_frozen HZ1.out 0
  have f1 := blk_frozen HZ1.out 1
  have c3 := (show W1.cell? ⟨w.heap.size, 0, none⟩ = some (.int .i64 0) from (blk_cell HZ1.out 0).trans rfl)
  have c4 := (show W1.cell? ⟨w.heap.size, 1, none⟩ = some (.slice none 0 0) from (blk_cell HZ1.out 1).trans rfl)
  by_cases b1 : n < 0
  · have HE := Aside0.mk (show newA n = (⟨[], 0⟩, 1) from if_pos (Or.inl b1))
    go_wp2
    refine bodyPost_ret (results_ct (cs := #[.int .i64 0, .slice none 0 0]) rfl _ _ w.heap.size 25 (0, 0) _ rfl (set2 HZ1.out rfl _ _) Tryd.underlying25 rfl (by kernel_rfl)) rfl ?_
    rw [HE.out]
    exact TPost.nil (Below.setCell (Below.setCell HB1.out (p := ⟨w.heap.size, 0, none⟩) (Nat.le_refl _) _) (p := ⟨w.heap.size, 1, none⟩) (Nat.le_refl _) _)
  by_cases b2 : 64 < n
  · have HE := Aside0.mk (show newA n = (⟨[], 0⟩, 1) from if_pos (Or.inr b2))
    have b11 : decide (n < 0) = false := decide_eq_false b1
    go_wp2
    refine bodyPost_ret (results_ct (cs := #[.int .i64 0, .slice none 0 0]) rfl _ _ w.heap.size 25 (0, 0) _ rfl (set2 HZ1.out rfl _ _) Tryd.underlying25 rfl (by kernel_rfl)) rfl ?_
    rw [HE.out]
    exact TPost.nil (Below.setCell (Below.setCell HB1.out (p := ⟨w.heap.size, 0, none⟩) (Nat.le_refl _) _) (p := ⟨w.heap.size, 1, none⟩) (Nat.le_refl _) _)
  have HE := Aside0.mk (show newA n = (⟨List.replicate n.toNat emp, -1⟩, 0) from if_neg (by omega))
  have b11 : decide (n < 0) = false := decide_eq_false b1
  have b12 : decide (64 < n) = false := decide_eq_false b2
  obtain ⟨m, rfl⟩ : ∃ m : Nat, n = (m : Int) := ⟨n.toNat, by omega⟩
  rw [Int.toNat_natCast] at HE
  have HM := Aside0.mk (show m ≤ 64 by omega)
  have HT1 := Aside0.mk (HT.out.below HB1.out)
  have e0 := HT1.out.c0
  have e1 := HT1.out.c1
  have e2 := HT1.out.c2
  have e3 := HT1.out.c3
  have e4 := HT1.out.c4
  have e5 := HT1.out.c5
  clear f0 f1 c3 c4
  go_upto_region 3 with (fail)
  have HV := Aside0.mk (show (W1.alloc (.cells #[.bool false, .bool false, .int .u64 0, .int .i64 (-1), .int .i64 (-1), .int .i64 (-1)] 74)).heap[W1.heap.size]? = some (.cells (nv emp).toArray 74 (0, 0)) from blk_new W1 _)
  have HBV := Aside0.mk (below_alloc (Below.refl W1.heap.size W1) (.cells #[.bool false, .bool false, .int .u64 0, .int .i64 (-1), .int .i64 (-1), .int .i64 (-1)] 74))
  go_wp2_with (go_at_call 42; refine (Repeat_ W1.heap.size m HM.out _ HV.out).mono ?_; rintro e w3 ⟨g, rfl, hR, hg, hb⟩; have HR3 := Aside0.mk hR; have HG3 := Aside0.mk hg; have hb2 := below_step HBV.out hb; have HB3 := Aside0.mk (below_step HB1.out hb2); have HZ3 := Aside0.mk (blk_below HZ1.out hb2); have HN3 := Aside0.mk (show w.heap.size < g by have h1 := HS1.out; have h2 := HBV.out.size; omega); clear hR hg hb hb2; have f0 := blk_frozen HZ3.out 0; have f1 := blk_frozen HZ3.out 1; have c3 := (show w3.cell? ⟨w.heap.size, 0, none⟩ = some (.int .i64 0) from (blk_cell HZ3.out 0).trans rfl); have c4 := (show w3.cell? ⟨w.heap.size, 1, none⟩ = some (.slice none 0 0) from (blk_cell HZ3.out 1).trans rfl))
  refine bodyPost_ret (results_ct (cs := #[.int .i64 (-1), .slice (some ⟨g, 0, none⟩) m m]) rfl _ _ w.heap.size 25 (0, 0) _ rfl (set2 HZ3.out rfl _ _) Tryd.underlying25 rfl (by kernel_rfl)) rfl ?_
  rw [HE.out]
  obtain ⟨cur, h1, h2⟩ := HR3.out.out
  have hn := HN3.out
  have h3 : ((w3.setCell ⟨w.heap.size, 0, none⟩ (.int .i64 (-1))).setCell ⟨w.heap.size, 1, none⟩ (.slice (some ⟨g, 0, none⟩) m m)).heap[g]? = some (.cells cur 74 (0, 0)) := by
    rw [Below.heap_setCell _ _ _ _ (by show g ≠ w.heap.size; omega), Below.heap_setCell _ _ _ _ (by show g ≠ w.heap.size; omega)]
    exact h1
  have h4 : cur.toList = flat (List.replicate m emp) ++ [] := by rw [h2]; simp
  have h5 := arr_R (base := w.heap.size) (cap := m) (ok := fun _ => True) h3 h4 (by omega) trivial (by rw [List.length_replicate]; exact Nat.le_refl _) (by have := HM.out; show m ≤ maxLen; unfold maxLen; omega) (by rw [List.length_replicate]; rfl)
  rw [List.length_replicate] at h5
  exact ⟨_, rfl, h5, Below.setCell (Below.setCell HB3.out (p := ⟨w.heap.size, 0, none⟩) (Nat.le_refl _) _) (p := ⟨w.heap.size, 1, none⟩) (Nat.le_refl _) _⟩
end Go.Proofs.YtnkhnnojdlgfjaaDoor.Tm
