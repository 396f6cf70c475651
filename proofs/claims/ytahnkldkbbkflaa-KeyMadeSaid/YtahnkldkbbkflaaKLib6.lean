/- slices.Insert of one key where there is no room, slices.Delete of one, at keys. No condition but lengths. Written by hand. -/
import Derived.Test.YtahnkldkbbkflaaKLib5
namespace Go.Proofs.Ytahnkldkbbkflaa.Srt
open Go.RowKit Go Go.Proofs Go.Proofs.Ytahnkldkbbkflaa Go.Proofs.Ytahnkldkbbkflaa.Ky Go.Proofs.YtahnkldkbbkflaaW.PrintWords Go.Proofs.YtahnkldkbbkflaaW.PrintLast Go.Proofs.YtahnkldkbbkflaaW.PrintMore
set_option linter.unusedVariables false
set_option linter.unusedSimpArgs false
variable {rs : List Value}
theorem wpList_append_run {P : Program} {w : World} {ops : Array Oper} {rest : List Oper} {o : Oper} {a : Act} {Q : Exit → Act → World → Prop} (hgd : o.guard = none) (d s : Operand) (dT sT : TypeId)
    (ho : o.op = .call { callee := .builtin .append, args := #[d, s], argTypes := #[dT, sT] }) (v u : Value) (hd : a.eval d = v) (hs : a.eval s = u) {v' : Value} {w' : World} (hrun : (Builtin.append_ #[dT, sT] o.type #[v, u]).run P w = .ok v' w')
    (h : wpList P ops Q rest (a.put o.dst v') w') : wpList P ops Q (o :: rest) a w := by
  refine wpList_plain hgd fun K hK => ?_
  unfold Oper.wp
  simp only [ho, execOp, resolve, invoke, builtin, Sem.run_bind, Sem.run_pure, Result.andThen_ok, List.map_toArray, List.map_cons, List.map_nil, hd, hs, hrun]
  exact hK _ _ h
theorem wpList_copy_run {P : Program} {w : World} {ops : Array Oper} {rest : List Oper} {o : Oper} {a : Act} {Q : Exit → Act → World → Prop} (hgd : o.guard = none) (d s : Operand) (dT sT ty : TypeId)
    (ho : o.op = .call { callee := .builtin .copy, args := #[d, s], argTypes := #[dT, sT] }) (hty : o.type = ty) (v u : Value) (hd : a.eval d = v) (hs : a.eval s = u) {v' : Value} {w' : World} (hrun : (Builtin.copy_ #[dT, sT] ty #[v, u]).run P w = .ok v' w')
    (h : wpList P ops Q rest (a.put o.dst v') w') : wpList P ops Q (o :: rest) a w := by
  subst hty
  refine wpList_plain hgd fun K hK => ?_
  unfold Oper.wp
  simp only [ho, execOp, resolve, invoke, builtin, Sem.run_bind, Sem.run_pure, Result.andThen_ok, List.map_toArray, List.map_cons, List.map_nil, hd, hs, hrun]
  exact hK _ _ h
theorem grow_list (F1 F2 Z1 Z2 : List Value) (a b : Value) (h : Z1.length = F2.length + 2) :
    (((F1 ++ Z1 ++ Z2).take F1.length ++ [a, b] ++ (F1 ++ Z1 ++ Z2).drop (F1.length + 2)).take (F1.length + 2) ++ F2 ++ ((F1 ++ Z1 ++ Z2).take F1.length ++ [a, b] ++ (F1 ++ Z1 ++ Z2).drop (F1.length + 2)).drop (F1.length + 2 + F2.length)) = F1 ++ ([a, b] ++ (F2 ++ Z2)) := by
  have e1 : (F1 ++ Z1 ++ Z2).take F1.length = F1 := by rw [List.append_assoc, List.take_left]
  have e2 : (F1 ++ Z1 ++ Z2).drop (F1.length + 2) = Z1.drop 2 ++ Z2 := by
    rw [← List.drop_drop, List.append_assoc, List.drop_left, List.drop_append_of_le_length (by omega)]
  rw [e1, e2]
  have e3 : (F1 ++ [a, b] ++ (Z1.drop 2 ++ Z2)).take (F1.length + 2) = F1 ++ [a, b] := List.take_left' (by simp)
  have e4 : (F1 ++ [a, b] ++ (Z1.drop 2 ++ Z2)).drop (F1.length + 2 + F2.length) = Z2 := by
    rw [← List.append_assoc]
    exact List.drop_left' (by simp; omega)
  rw [e3, e4]
  simp
set_option maxHeartbeats 4000000 in
set_option maxRecDepth 100000 in
theorem insertGrow (g n cap i V : Nat) (l : List K) (k : K) (w : World) (hA : Arr rs w g l) (hn : n = l.length) (hl : l.length ≤ 1000000) (hi : i < n) (hc : n = cap) (hV : w.heap[V]? = some (.cells #[.int .u64 k.1, .int .i64 k.2] 26 (0, 0))) :
    Calls Try.prog 35 #[.slice (some ⟨g, 0, none⟩) n cap, .int .i64 i, .slice (some ⟨V, 0, none⟩) 1 1] w fun e w' => ∃ C rs', e = .returned (.slice (some ⟨w.heap.size, 0, none⟩) (n + 1) C) ∧ n + 1 ≤ C ∧ C ≤ maxLen ∧ (n + 1) * 2 + rs'.length = C * 2 ∧ Arr rs' w' w.heap.size (l.take i ++ k :: l.drop i) ∧ Below w.heap.size w w' := by
  obtain ⟨cur, hg, hcur⟩ := hA.out
  obtain ⟨i0, hi0, hzz⟩ := Option.map_eq_some_iff.1 info26
  simp only [Prod.mk.injEq] at hzz
  obtain ⟨hz0, hz1, hz2⟩ := hzz
  have hF1 : (flat (l.take i)).length = i * 2 := by rw [flat_length, List.length_take, ← hn]; omega
  have hF2 : (flat (l.drop i)).length = (n - i) * 2 := by rw [flat_length, List.length_drop, ← hn]
  have hcc : cur.toList = flat (l.take i) ++ (flat (l.drop i) ++ rs) := by rw [hcur, take_drop_flat l i, List.append_assoc]
  have hold : (Builtin.firstCells i0.size i (.slice (some ⟨g, 0, none⟩) i cap)).run Try.prog w.drew = .ok (flat (l.take i)).toArray w.drew := by
    refine run_firstCells_some (P := Try.prog) w.drew i0.size i _ i cap _ (by rw [hF1, hz1]) (fun j u hj => ?_)
    have h := cell_from (w := w.drew) (A := []) (g := g) (cur := cur) hg hcc j u hj
    exact h
  have hap := Lib.run_append_grow_zeros (P := Try.prog) w 23 3 23 26 i0 (.agg #[(.int .u64 0), (.int .i64 0)]) .i64 .i64 Try.underlying23 Try.underlying3 hi0 hz0 (some ⟨g, 0, none⟩) i cap (flat (l.take i)) hold (n + 1 - i) (by omega) (by rw [hz1]; omega) (by omega) (by omega) (by rw [hz2]; omega) (Nat.le_trans (growslice_fits (bytes := i0.bytes) (by omega) (by rw [hz2]; omega)) (Nat.le_refl _))
  rw [show i + (n + 1 - i) = n + 1 by omega, show ((n + 1 - i : Nat) : Int) = (n : Int) + 1 - (i : Int) by omega] at hap
  have hC1 := grownCap_ge w (n + 1) cap 26
  have hC2 := grownCap_le_maxLen w (n + 1) cap 26 (by unfold maxLen; omega)
  generalize grownCap w (n + 1) cap 26 = C at hap hC1 hC2
  obtain ⟨Z1, hZ1⟩ : ∃ Z1, (Builtin.zeroCells (Value.agg #[Value.int .u64 0, Value.int .i64 0]).cells (n + 1 - i)) = Z1 := ⟨_, rfl⟩
  obtain ⟨Z2, hZ2⟩ : ∃ Z2, (Builtin.zeroCells (Value.agg #[Value.int .u64 0, Value.int .i64 0]).cells (C - (n + 1))) = Z2 := ⟨_, rfl⟩
  have hl1 : Z1.size = (n + 1 - i) * 2 := by rw [← hZ1, size_zeroCells]; rfl
  have hl2 : Z2.size = (C - (n + 1)) * 2 := by rw [← hZ2, size_zeroCells]; rfl
  rw [hZ1, hZ2] at hap
  have hcur2 : ((flat (l.take i)).toArray ++ Z1 ++ Z2).toList = flat (l.take i) ++ Z1.toList ++ Z2.toList := by simp
  have hG2 : (w.drew.alloc (.cells ((flat (l.take i)).toArray ++ Z1 ++ Z2) 26)).heap[w.heap.size]? = some (.cells ((flat (l.take i)).toArray ++ Z1 ++ Z2) 26 (0, 0)) := heap_alloc_new w.drew _
  have hB2 : Below w.heap.size w (w.drew.alloc (.cells ((flat (l.take i)).toArray ++ Z1 ++ Z2) 26)) := (Below.drew (Below.refl _ _)).alloc (Nat.le_refl _) _
  have hsz2 : ((flat (l.take i)).toArray ++ Z1 ++ Z2).size = C * 2 := by rw [← Array.length_toList, hcur2, List.length_append, List.length_append, hF1, Array.length_toList, Array.length_toList, hl1, hl2]; omega
  generalize hC2' : (flat (l.take i)).toArray ++ Z1 ++ Z2 = cur2 at hap hcur2 hG2 hB2 hsz2
  generalize w.drew.alloc (.cells cur2 26) = w2 at hap hG2 hB2
  have hne : g ≠ w.heap.size := by have := hA.lt; omega
  have hVlt : V < w.heap.size := (Array.getElem?_eq_some_iff.1 hV).1
  have hV2 : w2.heap[V]? = some (.cells #[.int .u64 k.1, .int .i64 k.2] 26 (0, 0)) := (hB2.block V hVlt).trans hV
  have hg2 : w2.heap[g]? = some (.cells cur 26 (0, 0)) := (hB2.block g hA.lt).trans hg
  have hrun1 := run_copy_sz (P := Try.prog) w2 23 23 3 26 2 w.heap.size (i * 2) (n + 1 - i) (C - i) ⟨V, 0, none⟩ 1 1 cur2 26 [.int .u64 k.1, .int .i64 k.2] Try.underlying23 size26 hG2 (by rw [show Nat.min 1 (n + 1 - i) = min 1 (n + 1 - i) from rfl, Nat.min_eq_left (by omega)]; rfl) (fun j v hj => by
    rw [add_at, Nat.zero_add, blk_cell hV2, ← Array.getElem?_toList]; exact hj) (by rw [hsz2, List.length_cons, List.length_singleton]; omega) (fun v hv => by
    rcases List.mem_cons.1 hv with rfl | hv
    · rfl
    · rw [List.mem_singleton.1 hv]; rfl)
  rw [show Nat.min 1 (n + 1 - i) = 1 from (by rw [show Nat.min 1 (n + 1 - i) = min 1 (n + 1 - i) from rfl]; omega)] at hrun1
  have hG3 := setRow_heap w2 w.heap.size cur2 (List.take (i * 2) cur2.toList ++ [Value.int .u64 k.1, Value.int .i64 k.2] ++ List.drop (i * 2 + [Value.int .u64 k.1, Value.int .i64 k.2].length) cur2.toList).toArray 26 _ hG2
  have hB3 := below_setRow hB2 (Nat.le_refl w.heap.size) (List.take (i * 2) cur2.toList ++ [Value.int .u64 k.1, Value.int .i64 k.2] ++ List.drop (i * 2 + [Value.int .u64 k.1, Value.int .i64 k.2].length) cur2.toList).toArray
  have hl3 : (List.take (i * 2) cur2.toList ++ [Value.int .u64 k.1, Value.int .i64 k.2] ++ List.drop (i * 2 + [Value.int .u64 k.1, Value.int .i64 k.2].length) cur2.toList).length = C * 2 := by
    rw [List.length_append, List.length_append, List.length_take, List.length_drop, List.length_cons, List.length_singleton, Array.length_toList, hsz2]; omega
  generalize hc3 : (List.take (i * 2) cur2.toList ++ [Value.int .u64 k.1, Value.int .i64 k.2] ++ List.drop (i * 2 + [Value.int .u64 k.1, Value.int .i64 k.2].length) cur2.toList) = cur3 at hrun1 hG3 hB3 hl3
  generalize w2.setRow w.heap.size cur3.toArray = w3 at hrun1 hG3 hB3
  have hg3 : w3.drew.heap[g]? = some (.cells cur 26 (0, 0)) := (hB3.block g hA.lt).trans hg
  have hG3' : w3.drew.heap[w.heap.size]? = some (.cells cur3.toArray 26 (0, 0)) := hG3
  have hB3' : Below w.heap.size w w3.drew := Below.drew hB3
  have hrun2 := run_copy_sz (P := Try.prog) w3.drew 23 23 3 26 2 w.heap.size ((i + 1) * 2) (n - i) (C - (i + 1)) ⟨g, i * 2, none⟩ (n - i) (cap - i) cur3.toArray 26 (flat (l.drop i)) Try.underlying23 size26 hG3' (by rw [show Nat.min (n - i) (n - i) = min (n - i) (n - i) from rfl, Nat.min_self, hF2]) (fun j v hj => by rw [← hF1]; exact cell_from hg3 hcc j v hj) (by rw [List.size_toArray, hl3, hF2]; omega) (flat_one _)
  have hG4 := setRow_heap w3.drew w.heap.size cur3.toArray (List.take ((i + 1) * 2) cur3.toArray.toList ++ flat (l.drop i) ++ List.drop ((i + 1) * 2 + (flat (l.drop i)).length) cur3.toArray.toList).toArray 26 _ hG3'
  have hB4 := below_setRow hB3' (Nat.le_refl w.heap.size) (List.take ((i + 1) * 2) cur3.toArray.toList ++ flat (l.drop i) ++ List.drop ((i + 1) * 2 + (flat (l.drop i)).length) cur3.toArray.toList).toArray
  have hA4 : Arr Z2.toList (w3.drew.setRow w.heap.size (List.take ((i + 1) * 2) cur3.toArray.toList ++ flat (l.drop i) ++ List.drop ((i + 1) * 2 + (flat (l.drop i)).length) cur3.toArray.toList).toArray) w.heap.size (l.take i ++ k :: l.drop i) := ⟨_, hG4, by
    have h := grow_list (flat (l.take i)) (flat (l.drop i)) Z1.toList Z2.toList (.int .u64 k.1) (.int .i64 k.2) (by rw [Array.length_toList, hl1, hF2]; omega)
    rw [hF1] at h
    show List.take ((i + 1) * 2) cur3 ++ flat (l.drop i) ++ List.drop ((i + 1) * 2 + (flat (l.drop i)).length) cur3 = _
    rw [← hc3, hcur2, show (i + 1) * 2 = i * 2 + 2 by omega]
    show _ = flat (l.take i ++ k :: l.drop i) ++ Z2.toList
    rw [flat_append, flat]
    simpa using h⟩
  generalize w3.drew.setRow w.heap.size (List.take ((i + 1) * 2) cur3.toArray.toList ++ flat (l.drop i) ++ List.drop ((i + 1) * 2 + (flat (l.drop i)).length) cur3.toArray.toList).toArray = w4 at hrun2 hB4 hA4
  have HAP := Aside0.mk hap
  have HRUN1 := Aside0.mk hrun1
  have HRUN2 := Aside0.mk hrun2
  have HA4 := Aside0.mk hA4
  have HB4 := Aside0.mk hB4
  have HZ : Aside0 ((n + 1) * 2 + Z2.toList.length = C * 2) := ⟨by rw [Array.length_toList, hl2]; omega⟩
  have HM := Aside0.mk hC2
  have HC := Aside0.mk hc
  have hcap : (n : Int) < (cap : Int) + 1 := by omega
  have b1 : ((i : Int) == (n : Int)) = false := beq_eq_false_iff_ne.2 (by omega)
  have b2 : (i : Int) + 1 ≤ (n : Int) := by omega
  have b3 : (cap : Int) < (n : Int) + 1 := by omega
  have b4 : (i : Int) ≤ (cap : Int) := by omega
  have b5 : (n : Int) + 1 ≤ (C : Int) := by omega
  have m4 : ¬ C = i := by omega
  have m5 : ¬ C = i + 1 := by omega
  have m6 : ¬ cap = i := by omega
  have hn2 : n ≤ 1000000 := by omega
  clear hA hg hcur hi0 hz0 hz1 hz2 hF1 hF2 hcc hold hap hC2 hZ1 hZ2 hl1 hl2 hcur2 hG2 hB2 hsz2 hC2' hne hVlt hV2 hg2 hrun1 hG3 hB3 hl3 hc3 hg3 hG3' hB3' hrun2 hG4 hB4 hA4 hV hn hc hcap hl
  have hr1 := HRUN1.out
  go_enter Try.func35, Try.ntmps35
  go_wp2_with (at_builtin; refine wpList_append_run rfl (.tmp 34) (.tmp 39) 23 3 rfl _ _ rfl rfl HAP.out ?_)
  clear hr1
  have m1 : ((i : Int) + 1).toNat = i + 1 := by omega
  have m3 : IntKind.i64.wrap ((i : Int) + 1) = (i : Int) + 1 := IntWalk.i64_in _ (by omega)
  have m7 : (i : Int) + 1 ≤ (n : Int) + 1 := by omega
  have m8 : (0 : Int) ≤ (i : Int) + 1 := by omega
  have m9 : (i : Int) ≤ (n : Int) := by omega
  go_still_tail 8, (by kernel_rfl)
  change wpList _ _ _ _ _ w3.drew
  refine wpList_copy_run rfl (.tmp 50) (.tmp 53) 23 23 3 rfl rfl _ _ ?hd ?hs HRUN2.out ?_
  case hd => rfl
  case hs => rfl
  go_wp2
  go_ret
  exact ⟨C, Z2.toList, rfl, by omega, HM.out, HZ.out, HA4.out, HB4.out⟩
end Go.Proofs.Ytahnkldkbbkflaa.Srt
