/- slices.Delete of one key, at keys. No condition but lengths. Written by hand. -/
import Derived.Test.YtahnkldkbbkflaaKLib6
namespace Go.Proofs.Ytahnkldkbbkflaa.Srt
open Go.RowKit Go Go.Proofs Go.Proofs.Ytahnkldkbbkflaa Go.Proofs.Ytahnkldkbbkflaa.Ky Go.Proofs.YtahnkldkbbkflaaW.PrintWords Go.Proofs.YtahnkldkbbkflaaW.PrintLast Go.Proofs.YtahnkldkbbkflaaW.PrintMore
set_option linter.unusedVariables false
set_option linter.unusedSimpArgs false
variable {rs : List Value}
/-- append of elements of sz cells where there is room -/
theorem run_append_room {P : Program} (w : World) (t ty e : TypeId) (i0 : TypeInfo) (sz : Nat) (ht : P.underlying t = some (.slice e)) (hi : P.info? e = some i0) (hsz : i0.size = sz)
    (g n cap : Nat) (cur : Array Value) (t' : TypeId) (hg : w.heap[g]? = some (.cells cur t' (0, 0))) (A : Option Addr) (m c : Nat) (cs : List Value) (hx : (Builtin.firstCells sz m (.slice A m c)).run P w = .ok cs.toArray w)
    (hroom : n + m ≤ cap) (hfit : n * sz + cs.length ≤ cur.size) (h1 : ∀ v ∈ cs, v.oneCell' = true) :
    (Builtin.append_ #[t, t] ty #[.slice (some ⟨g, 0, none⟩) n cap, .slice A m c]).run P w = .ok (.slice (some ⟨g, 0, none⟩) (n + m) cap) (w.setRow g (cur.toList.take (n * sz) ++ cs ++ cur.toList.drop (n * sz + cs.length)).toArray) := by
  subst hsz
  have hst := run_storeCells_at P g (n * i0.size) t' cs 0 cur w hg (by simpa using hfit) h1
  simp [Builtin.append_, run_underlying ht, sizeOf, typeInfo, hi, Builtin.lenOf, hx, hroom, hst, add_plain]
theorem run_clear_one (w : World) (ty g o c : Nat) (cur : Array Value) (hg : w.heap[g]? = some (.cells cur 26 (0, 0))) (hfit : o + 2 ≤ cur.size) :
    (Builtin.clear_ #[23] ty #[.slice (some ⟨g, o, none⟩) 1 c]).run Try.prog w = .ok (.tuple #[]) (w.setRow g (cur.toList.take o ++ [Value.int .u64 0, Value.int .i64 0] ++ cur.toList.drop (o + 2)).toArray) := by
  have hst := run_storeCells_at Try.prog g o 26 [Value.int .u64 0, Value.int .i64 0] 0 cur w hg (by simpa using hfit) (by intro v hv; rcases List.mem_cons.1 hv with rfl | hv; (· rfl); rw [List.mem_singleton.1 hv]; rfl)
  have hv : ∀ w, (zeroValue 26).run Try.prog w = .ok (.agg #[.int .u64 0, .int .i64 0]) w := fun w => by kernel_rfl
  have hz : (Builtin.zeroCells (Value.agg #[Value.int .u64 0, Value.int .i64 0]).cells 1).toList = [Value.int .u64 0, Value.int .i64 0] := by kernel_rfl
  simp [Builtin.clear_, run_underlying Try.underlying23, hv, hz, hst]
theorem del_list (F1 F2 R : List Value) (x y a b : Value) :
    ((((F1 ++ ([x, y] ++ (F2 ++ R))).take F1.length ++ F2 ++ (F1 ++ ([x, y] ++ (F2 ++ R))).drop (F1.length + F2.length)).take (F1.length + F2.length)) ++ [a, b] ++ (((F1 ++ ([x, y] ++ (F2 ++ R))).take F1.length ++ F2 ++ (F1 ++ ([x, y] ++ (F2 ++ R))).drop (F1.length + F2.length)).drop (F1.length + F2.length + 2))) = F1 ++ (F2 ++ ([a, b] ++ R)) := by
  rw [List.take_left]
  have e1 : (F1 ++ F2 ++ (F1 ++ ([x, y] ++ (F2 ++ R))).drop (F1.length + F2.length)).take (F1.length + F2.length) = F1 ++ F2 := List.take_left' (by simp)
  have e2 : (F1 ++ F2 ++ (F1 ++ ([x, y] ++ (F2 ++ R))).drop (F1.length + F2.length)).drop (F1.length + F2.length + 2) = R := by
    rw [← List.drop_drop, List.drop_left' (by simp), List.drop_drop, show F1.length + F2.length + 2 = F1.length + (2 + F2.length) by omega, ← List.drop_drop, List.drop_left, ← List.drop_drop]
    show List.drop F2.length (F2 ++ R) = R
    rw [List.drop_left]
  rw [e1, e2]
  simp
set_option maxHeartbeats 4000000 in
set_option maxRecDepth 100000 in
theorem deleteOne (g n cap i : Nat) (l : List K) (w : World) (hA : Arr rs w g l) (hn : n = l.length) (hl : l.length ≤ 1000000) (hi : i < n) (hc : n ≤ cap) (hm : cap ≤ maxLen) (hs : l.length * 2 + rs.length = cap * 2) (J : Int) (hJ : J = (i : Int) + 1) :
    Calls Try.prog 37 #[.slice (some ⟨g, 0, none⟩) n cap, .int .i64 i, .int .i64 J] w fun e w' => e = .returned (.slice (some ⟨g, 0, none⟩) (n - 1) cap) ∧ Arr (.int .u64 0 :: .int .i64 0 :: rs) w' g (l.take i ++ l.drop (i + 1)) ∧ w.grownBy w' (some g) := by
  subst hJ
  obtain ⟨cur, hg, hcur⟩ := hA.out
  obtain ⟨i0, hi0, hzz⟩ := Option.map_eq_some_iff.1 info26
  simp only [Prod.mk.injEq] at hzz
  obtain ⟨_, hz1, _⟩ := hzz
  have hsz : cur.size = cap * 2 := by rw [← Array.length_toList, hcur, List.length_append, flat_length, hs]
  have hF1 : (flat (l.take i)).length = i * 2 := by rw [flat_length, List.length_take, ← hn]; omega
  have hF2 : (flat (l.drop (i + 1))).length = (n - (i + 1)) * 2 := by rw [flat_length, List.length_drop, ← hn]
  have hd : l.drop i = gt l i :: l.drop (i + 1) := by rw [List.drop_eq_getElem_cons (by omega), gt_of l i (by omega)]
  have hcc : cur.toList = flat (l.take i) ++ ([Value.int .u64 (gt l i).1, Value.int .i64 (gt l i).2] ++ (flat (l.drop (i + 1)) ++ rs)) := by rw [hcur, take_drop_flat l i, hd, flat]; simp
  have hcc2 : cur.toList = (flat (l.take i) ++ [Value.int .u64 (gt l i).1, Value.int .i64 (gt l i).2]) ++ (flat (l.drop (i + 1)) ++ rs) := by rw [hcc]; simp
  have hF3 : (flat (l.take i) ++ [Value.int .u64 (gt l i).1, Value.int .i64 (gt l i).2]).length = (i + 1) * 2 := by rw [List.length_append, hF1]; simp; omega
  have hgd : w.drew.heap[g]? = some (.cells cur 26 (0, 0)) := hg
  obtain ⟨A, hAA⟩ : ∃ A : Option Addr, A = if cap = i + 1 then some ⟨g, 0, none⟩ else some ⟨g, (i + 1) * 2, none⟩ := ⟨_, rfl⟩
  have hx : (Builtin.firstCells 2 (n - (i + 1)) (.slice A (n - (i + 1)) (cap - (i + 1)))).run Try.prog w.drew = .ok (flat (l.drop (i + 1))).toArray w.drew := by
    rw [hAA]
    by_cases e : cap = i + 1
    · have e2 : n - (i + 1) = 0 := by omega
      rw [if_pos e]
      refine run_firstCells_some (P := Try.prog) w.drew 2 _ _ _ _ _ (by rw [hF2]) (fun j u hj => ?_)
      have := (List.getElem?_eq_some_iff.1 hj).1
      rw [hF2, e2] at this
      omega
    · rw [if_neg e]
      refine run_firstCells_some (P := Try.prog) w.drew 2 _ _ _ _ _ (by rw [hF2]) (fun j u hj => ?_)
      rw [← hF3]
      exact cell_from hgd hcc2 j u hj
  have hrun1 := run_append_room (P := Try.prog) w.drew 23 23 26 i0 2 Try.underlying23 hi0 hz1 g i cap cur 26 hgd A (n - (i + 1)) (cap - (i + 1)) (flat (l.drop (i + 1))) hx (by omega) (by rw [hF2, hsz]; omega) (flat_one _)
  have hg1 := setRow_heap w.drew g cur (cur.toList.take (i * 2) ++ flat (l.drop (i + 1)) ++ cur.toList.drop (i * 2 + (flat (l.drop (i + 1))).length)).toArray 26 _ hgd
  have hG1 : w.grownBy (w.drew.setRow g (cur.toList.take (i * 2) ++ flat (l.drop (i + 1)) ++ cur.toList.drop (i * 2 + (flat (l.drop (i + 1))).length)).toArray) (some g) := ⟨rfl, rfl, rfl, by simp [World.setRow], fun q hq hne2 => setRow_other w.drew g q _ (fun e => hne2 (by rw [e]))⟩
  have hl1 : (cur.toList.take (i * 2) ++ flat (l.drop (i + 1)) ++ cur.toList.drop (i * 2 + (flat (l.drop (i + 1))).length)).length = cap * 2 := by
    rw [List.length_append, List.length_append, List.length_take, List.length_drop, hF2, Array.length_toList, hsz]; omega
  generalize hc1 : cur.toList.take (i * 2) ++ flat (l.drop (i + 1)) ++ cur.toList.drop (i * 2 + (flat (l.drop (i + 1))).length) = cur1 at hrun1 hg1 hG1 hl1
  generalize w.drew.setRow g cur1.toArray = w1 at hrun1 hg1 hG1
  rw [show i + (n - (i + 1)) = n - 1 by omega] at hrun1
  have hrun2 := fun ty => run_clear_one w1 ty g ((n - 1) * 2) (cap - (n - 1)) cur1.toArray hg1 (by rw [List.size_toArray, hl1]; omega)
  have hg2 := setRow_heap w1 g cur1.toArray (cur1.toArray.toList.take ((n - 1) * 2) ++ [Value.int .u64 0, Value.int .i64 0] ++ cur1.toArray.toList.drop ((n - 1) * 2 + 2)).toArray 26 _ hg1
  have hG2 : w1.grownBy (w1.setRow g (cur1.toArray.toList.take ((n - 1) * 2) ++ [Value.int .u64 0, Value.int .i64 0] ++ cur1.toArray.toList.drop ((n - 1) * 2 + 2)).toArray) (some g) := ⟨rfl, rfl, rfl, by simp [World.setRow], fun q hq hne2 => setRow_other w1 g q _ (fun e => hne2 (by rw [e]))⟩
  have hA2 : Arr (.int .u64 0 :: .int .i64 0 :: rs) (w1.setRow g (cur1.toArray.toList.take ((n - 1) * 2) ++ [Value.int .u64 0, Value.int .i64 0] ++ cur1.toArray.toList.drop ((n - 1) * 2 + 2)).toArray) g (l.take i ++ l.drop (i + 1)) := ⟨_, hg2, by
    have h := del_list (flat (l.take i)) (flat (l.drop (i + 1))) rs (.int .u64 (gt l i).1) (.int .i64 (gt l i).2) (.int .u64 0) (.int .i64 0)
    rw [hF1] at h
    show cur1.take ((n - 1) * 2) ++ [Value.int .u64 0, Value.int .i64 0] ++ cur1.drop ((n - 1) * 2 + 2) = _
    rw [← hc1, hcc, show (n - 1) * 2 = i * 2 + (flat (l.drop (i + 1))).length by rw [hF2]; omega, h, flat_append]
    simp⟩
  generalize w1.setRow g (cur1.toArray.toList.take ((n - 1) * 2) ++ [Value.int .u64 0, Value.int .i64 0] ++ cur1.toArray.toList.drop ((n - 1) * 2 + 2)).toArray = w2 at hrun2 hG2 hA2
  have HA2 := Aside0.mk hA2
  have HG2 := Aside0.mk (gb_trans hG1 hG2)
  have HRUN1 := Aside0.mk hrun1
  have HAA := Aside0.mk hAA
  have hn2 : n ≤ 1000000 := by omega
  unfold maxLen at hm
  have b1 : ((i : Int) == (i : Int) + 1) = false := beq_eq_false_iff_ne.2 (by omega)
  have b2 : (i : Int) + 1 ≤ (n : Int) := by omega
  have b3 : (n : Int) ≤ (cap : Int) := by omega
  have b4 : (i : Int) ≤ (i : Int) + 1 := by omega
  have m4 : ¬ cap = i := by omega
  have m5 : ¬ cap = n - 1 := by omega
  clear hA hcur hg hi0 hz1 hsz hF1 hF2 hd hcc hcc2 hF3 hgd hx hrun1 hg1 hG1 hl1 hc1 hg2 hG2 hA2 hs hn hl hAA
  go_enter Try.func37, Try.ntmps37
  go_wp2
  have m1 : ((i : Int) + 1).toNat = i + 1 := by omega
  have m8 : (0 : Int) ≤ (i : Int) + 1 := by omega
  have m9 : (i : Int) ≤ (n : Int) := by omega
  have q6 : i ≤ cap := by omega
  have q7 : i + 1 ≤ n := by omega
  have q8 : i ≤ n := by omega
  go_still_tail 6, (by kernel_rfl)
  change wpList _ _ _ _ _ w.drew
  refine wpList_append_run rfl (.tmp 22) (.tmp 25) 23 23 rfl _ _ ?hd ?hs HRUN1.out ?_
  case hd => rfl
  case hs => rw [HAA.out]; rfl
  have q1 : (n : Int) - 1 ≤ (n : Int) := by omega
  have q2 : ((n - 1 : Nat) : Int) ≤ (n : Int) := by omega
  have q3 : n - (n - 1) = 1 := by omega
  have q4 : n - 1 ≤ n := by omega
  have q5 : n ≤ cap := hc
  go_wp2
  all_goals (go_ret; exact ⟨rfl, HA2.out, HG2.out⟩)
end Go.Proofs.Ytahnkldkbbkflaa.Srt
