/- Any keys with one more, and with one less, or why not: as the document says; no condition. -/
import Derived.Test.YtahnkldkbbkflaaQKeyPutsx6
import Derived.Test.YtahnkldkbbkflaaKPure2
namespace Go.Proofs.Ytahnkldkbbkflaa.QKeyPuts
open Go.RowKit Go.Proofs Go.Proofs.Ytahnkldkbbkflaa Go.Proofs.Ytahnkldkbbkflaa.Ky Go.Proofs.Ytahnkldkbbkflaa.Srt Go.Proofs.Ytahnkldkbbkflaa.KC Go.Proofs.Ytahnkldkbbkflaa.KP Go.Proofs.YtahnkldkbbkflaaW.PrintWords Go.Proofs.YtahnkldkbbkflaaW.PrintLast
set_option linter.unusedVariables false
section
theorem wfu {n : Int} (h : (Lit.int .u64 n).wf = true) : 0 ≤ n ∧ n ≤ 18446744073709551615 := by
  simp [Lit.wf, IntKind.min, IntKind.max, IntKind.signed, IntKind.bits] at h; omega
end
section
def un (k : K) : S26 := ⟨k.1, k.2⟩
theorem pr_un (l : List K) : (l.map un).map (fun s => (s.f0, s.f1)) = l := by
  rw [List.map_map]
  exact List.map_id l
theorem rd_un (l : List K) (i : Nat) (h : i < l.length) : rd_T26 (l.map un) (i : Int) = un (gt l i) := by
  unfold rd_T26
  rw [Int.toNat_natCast, List.getD_eq_getElem?_getD, List.getElem?_map, List.getElem?_eq_getElem h, gt_of l i h]
  rfl
theorem Sort_un {mn : Int} {l : List K} (h : okR l = true) : key_Sort.f mn (l.map un) = some ((sortK mn l).map un) := by
  unfold key_Sort.f
  rw [pr_un, if_pos h]; rfl
theorem Sorted_un {mn : Int} {l : List K} (h : okR l = true) : key_Sorted.f mn (l.map un) = some (sortedK (cvf mn) l) := by
  unfold key_Sorted.f
  rw [pr_un, if_pos h]
theorem First_un {mn : Int} {l : List K} (h : okR l = true) : key_First.f mn (l.map un) = some ((firstK (cvf mn) l).1, (firstK (cvf mn) l).2, decide (0 < l.length)) := by
  unfold key_First.f
  rw [pr_un, if_pos h, List.length_map]
theorem Put_un {mn : Int} {l : List K} (k : K) (h : okR l = true) : key_Put.f mn (l.map un) k.1 k.2 = some ((putK (cvf mn) l k).1.map un, (putK (cvf mn) l k).2) := by
  unfold key_Put.f
  rw [pr_un, if_pos h]; rfl
theorem Drop_un {mn : Int} {l : List K} (id : Int) (h : okR l = true) : key_Drop.f mn (l.map un) id = some ((dropK (cvf mn) l id).1.map un, (dropK (cvf mn) l id).2) := by
  unfold key_Drop.f
  rw [pr_un, if_pos h]; rfl


theorem wfh {n : Int} (h : (Lit.int .u16 n).wf = true) : 0 ≤ n ∧ n ≤ 65535 := by
  simp [Lit.wf, IntKind.min, IntKind.max, IntKind.signed, IntKind.bits] at h; omega
theorem wfi {n : Int} (h : (Lit.int .i64 n).wf = true) : -9223372036854775808 ≤ n ∧ n ≤ 9223372036854775807 := by
  simp [Lit.wf, IntKind.min, IntKind.max, IntKind.signed, IntKind.bits] at h; omega
end

section
theorem Evt.step3 {β : Type} {g h : Nat → Option β} {r : β} (he : Evt h r) (hs : ∀ k, 3 ≤ k → g (k + 1) = h k) : Evt g r := by
  obtain ⟨K, hK⟩ := he
  refine ⟨max K 3 + 1, fun k hk => ?_⟩
  obtain ⟨k, rfl⟩ : ∃ m, k = m + 1 := ⟨k - 1, by omega⟩
  rw [hs k (by omega)]
  exact hK k (by omega)
theorem un_map (l1 : List S26) : (l1.map fun s => ((s.f0, s.f1) : K)).map un = l1 := by
  rw [List.map_map]
  exact List.map_id l1
theorem okR_un {l1 : List S26} (h : l1.length ≤ 60) (hG : ∀ x ∈ l1, (Lit.int .u64 x.f0).wf = true ∧ (Lit.int .i64 x.f1).wf = true) : okR (l1.map fun s => ((s.f0, s.f1) : K)) = true := by
  refine okR_of (by rw [List.length_map]; omega) fun x hx => ?_
  obtain ⟨s, hs, rfl⟩ := List.mem_map.1 hx
  exact ⟨wfu (hG s hs).1, wfi (hG s hs).2⟩
theorem rlag (a b : Int) : turnspitref03_Lag.f a b = some (lagf b a) := by
  unfold turnspitref03_Lag.f lagf
  simp only [w64, wrap64]
  split
  · rfl
  · congr 1
    omega
theorem rless (mn : Int) (x y : K) : turnspitref08_Less.f mn x.1 x.2 y.1 y.2 = some (decide (cvf mn x y < 0)) := by
  unfold turnspitref08_Less.f
  simp only [rlag, Option.bind_some]
  split
  · exact congrArg some (decide_eq_true (by rw [cv_lt]; omega)).symm
  · split
    · congr 1
      rw [decide_eq_decide, cv_lt]; omega
    · exact congrArg some (decide_eq_false (by rw [cv_lt]; omega)).symm
open Classical in
theorem sorted_l1 {mn : Int} {l : List K} (hl : l.length ≤ 1000) (i : Nat) (hi : i < l.length) (R : Bool) (hR : Evt (fun k => turnspitref08_Sorted.l0 k mn (l.map un) ((i + 1 : Nat) : Int)) R) : ∀ (d j : Nat), d + j = i →
    Evt (fun k => turnspitref08_Sorted.l1 k mn (l.map un) (i : Int) (j : Int)) (decide (∀ t, j ≤ t → t < i → cvf mn (gt l t) (gt l i) < 0 ∧ (gt l t).2 ≠ (gt l i).2) && R)
  | 0, j, hj => by
    rw [show decide (∀ t, j ≤ t → t < i → cvf mn (gt l t) (gt l i) < 0 ∧ (gt l t).2 ≠ (gt l i).2) = true from decide_eq_true (fun t h1 h2 => by omega), Bool.true_and]
    refine Evt.step hR fun k => ?_
    rw [turnspitref08_Sorted.l1, if_neg (by omega), show wrap64 ((i : Int) + 1) = ((i + 1 : Nat) : Int) from by unfold wrap64; omega]
  | d + 1, j, hj => by
    have hstep : ∀ k, turnspitref08_Sorted.l1 (k + 1) mn (l.map un) (i : Int) (j : Int) = if cvf mn (gt l j) (gt l i) < 0 then (if (gt l j).2 = (gt l i).2 then some false else turnspitref08_Sorted.l1 k mn (l.map un) (i : Int) ((j + 1 : Nat) : Int)) else some false := fun k => by
      rw [turnspitref08_Sorted.l1, List.length_map, if_pos (by omega), if_pos (by omega), if_pos (by omega), if_pos (by omega), if_pos (by omega), rd_un l j (by omega), rd_un l i hi]
      rw [show turnspitref08_Less.f mn (un (gt l j)).f0 (un (gt l j)).f1 (un (gt l i)).f0 (un (gt l i)).f1 = _ from rless mn (gt l j) (gt l i), Option.bind_some]
      rw [show wrap64 ((j : Int) + 1) = ((j + 1 : Nat) : Int) from by unfold wrap64; omega]
      by_cases c : cvf mn (gt l j) (gt l i) < 0
      · rw [if_pos (decide_eq_true c), if_pos c]; rfl
      · rw [if_neg (by simpa using c), if_neg c]
    by_cases c : cvf mn (gt l j) (gt l i) < 0 ∧ (gt l j).2 ≠ (gt l i).2
    · have e : decide (∀ t, j ≤ t → t < i → cvf mn (gt l t) (gt l i) < 0 ∧ (gt l t).2 ≠ (gt l i).2) = decide (∀ t, j + 1 ≤ t → t < i → cvf mn (gt l t) (gt l i) < 0 ∧ (gt l t).2 ≠ (gt l i).2) := by
        rw [decide_eq_decide]
        refine ⟨fun h t h1 h2 => h t (by omega) h2, fun h t h1 h2 => ?_⟩
        by_cases e : t = j
        · subst e; exact c
        · exact h t (by omega) h2
      rw [e]
      refine Evt.step (sorted_l1 hl i hi R hR d (j + 1) (by omega)) fun k => ?_
      rw [hstep, if_pos c.1, if_neg c.2]
    · have e : decide (∀ t, j ≤ t → t < i → cvf mn (gt l t) (gt l i) < 0 ∧ (gt l t).2 ≠ (gt l i).2) = false := decide_eq_false (fun h => c (h j (Nat.le_refl _) (by omega)))
      rw [e, Bool.false_and]
      refine Evt.step (Evt.now false) fun k => ?_
      rw [hstep]
      by_cases c1 : cvf mn (gt l j) (gt l i) < 0
      · rw [if_pos c1, if_pos (by apply Classical.byContradiction; intro h; exact c ⟨c1, h⟩)]
      · rw [if_neg c1]
open Classical in
theorem sorted_l0 {mn : Int} {l : List K} (hl : l.length ≤ 1000) : ∀ (d i : Nat), d + i = l.length →
    Evt (fun k => turnspitref08_Sorted.l0 k mn (l.map un) (i : Int)) (decide (∀ s, i ≤ s → s < l.length → ∀ t, t < s → cvf mn (gt l t) (gt l s) < 0 ∧ (gt l t).2 ≠ (gt l s).2))
  | 0, i, hi => by
    rw [show decide (∀ s, i ≤ s → s < l.length → ∀ t, t < s → cvf mn (gt l t) (gt l s) < 0 ∧ (gt l t).2 ≠ (gt l s).2) = true from decide_eq_true (fun s h1 h2 => by omega)]
    refine Evt.step (Evt.now true) fun k => ?_
    rw [turnspitref08_Sorted.l0, List.length_map, if_neg (by omega)]
  | d + 1, i, hi => by
    have h := sorted_l1 hl i (by omega) _ (sorted_l0 (mn := mn) hl d (i + 1) (by omega)) i 0 (by omega)
    rw [← Bool.decide_and] at h
    have e : decide (∀ s, i ≤ s → s < l.length → ∀ t, t < s → cvf mn (gt l t) (gt l s) < 0 ∧ (gt l t).2 ≠ (gt l s).2) = decide ((∀ t, 0 ≤ t → t < i → cvf mn (gt l t) (gt l i) < 0 ∧ (gt l t).2 ≠ (gt l i).2) ∧ ∀ s, i + 1 ≤ s → s < l.length → ∀ t, t < s → cvf mn (gt l t) (gt l s) < 0 ∧ (gt l t).2 ≠ (gt l s).2) := by
      rw [decide_eq_decide]
      refine ⟨fun h => ⟨fun t _ ht => h i (Nat.le_refl _) (by omega) t ht, fun s h1 h2 => h s (by omega) h2⟩, fun h s h1 h2 t ht => ?_⟩
      by_cases e : s = i
      · subst e; exact h.1 t (Nat.zero_le _) ht
      · exact h.2 s (by omega) h2 t ht
    rw [e]
    refine Evt.step h fun k => ?_
    rw [turnspitref08_Sorted.l0, List.length_map, if_pos (by omega)]
    rfl
open Classical in
theorem rsorted (mn : Int) {l : List K} (hl : l.length ≤ 1000) : Evt (fun k => turnspitref08_Sorted.f k mn (l.map un)) (sortedK (cvf mn) l) := by
  have h := sorted_l0 (mn := mn) hl l.length 0 (by omega)
  have e : decide (∀ s, 0 ≤ s → s < l.length → ∀ t, t < s → cvf mn (gt l t) (gt l s) < 0 ∧ (gt l t).2 ≠ (gt l s).2) = sortedK (cvf mn) l := by
    rw [Bool.eq_iff_iff, decide_eq_true_iff, sortedK_iff]
    constructor
    · intro h
      refine ⟨List.pairwise_iff_getElem.2 fun i j hi hj hij => ?_, List.pairwise_iff_getElem.2 fun i j hi hj hij => ?_⟩
      · have := (h j (Nat.zero_le _) hj i hij).1
        rwa [gt_of l i hi, gt_of l j hj] at this
      · have := (h j (Nat.zero_le _) hj i hij).2
        rwa [gt_of l i hi, gt_of l j hj] at this
    · intro h s _ hs t ht
      rw [gt_of l s hs, gt_of l t (by omega)]
      exact ⟨List.pairwise_iff_getElem.1 h.pw t s (by omega) hs ht, List.pairwise_iff_getElem.1 h.nd t s (by omega) hs ht⟩
  rw [e] at h
  exact h
theorem same_step {l : List K} (hl : l.length ≤ 1000) : ∀ (d i : Nat), d + i = l.length → Evt (fun k => turnspitref08_Same.l0 k (l.map un) (l.map un) (i : Int)) true
  | 0, i, hi => by
    refine Evt.step (Evt.now true) fun k => ?_
    rw [turnspitref08_Same.l0, List.length_map, if_neg (by omega)]
  | d + 1, i, hi => by
    refine Evt.step (same_step hl d (i + 1) (by omega)) fun k => ?_
    rw [turnspitref08_Same.l0, List.length_map, if_pos (by omega), if_pos (by omega), if_pos (by omega), if_neg (by simp), show wrap64 ((i : Int) + 1) = ((i + 1 : Nat) : Int) from by unfold wrap64; omega]
theorem rsame {l : List K} (hl : l.length ≤ 1000) : Evt (fun k => turnspitref08_Same.f k (l.map un) (l.map un)) true := by
  obtain ⟨K, hK⟩ := same_step hl l.length 0 (by omega)
  exact ⟨K, fun k hk => by
    show turnspitref08_Same.f k (l.map un) (l.map un) = _
    rw [turnspitref08_Same.f, if_pos rfl]; exact hK k hk⟩
end

section
theorem put_yes {mn : Int} {l : List K} {x : K} (hl : l.length ≤ 1000) : ∀ (d i : Nat) (o : List K), d + i = l.length → o.length + d ≤ 2000 → Evt (fun k => turnspitref08_put.l0 k mn (l.map un) (o.map un) true (i : Int) x.1 x.2) ((o ++ l.drop i).map un)
  | 0, i, o, hi, ho => by
    refine Evt.step (Evt.now _) fun k => ?_
    rw [turnspitref08_put.l0, List.length_map, if_neg (by omega), if_pos rfl, List.drop_eq_nil_of_le (by omega), List.append_nil]
  | d + 1, i, o, hi, ho => by
    have hlt : i < l.length := by omega
    have h := put_yes (mn := mn) (x := x) hl d (i + 1) (o ++ [gt l i]) (by omega) (by rw [List.length_append]; simp; omega)
    rw [List.append_assoc, gt_of l i hlt, List.singleton_append, List.getElem_cons_drop] at h
    refine Evt.step h fun k => ?_
    rw [turnspitref08_put.l0, List.length_map, if_pos (by omega), if_pos (by omega), rd_un l i hlt]
    rw [show turnspitref08_Less.f mn x.1 x.2 (un (gt l i)).f0 (un (gt l i)).f1 = _ from rless mn x (gt l i), Option.bind_some, if_pos rfl, if_pos (by rw [List.length_map]; omega)]
    rw [show wrap64 ((i : Int) + 1) = ((i + 1 : Nat) : Int) from by unfold wrap64; omega, List.map_append, gt_of l i hlt]
    rfl
theorem put_no {mn : Int} {l : List K} {x : K} (hl : l.length ≤ 1000) : ∀ (d i : Nat) (o : List K), d + i = l.length → o.length + d ≤ 1000 → Evt (fun k => turnspitref08_put.l0 k mn (l.map un) (o.map un) false (i : Int) x.1 x.2) ((o ++ ins mn (l.drop i) x).map un)
  | 0, i, o, hi, ho => by
    refine Evt.step (Evt.now _) fun k => ?_
    rw [turnspitref08_put.l0, List.length_map, if_neg (by omega), if_neg (by simp), if_pos (by rw [List.length_map]; omega), List.drop_eq_nil_of_le (by omega), ins_nil, List.map_append]
    rfl
  | d + 1, i, o, hi, ho => by
    have hlt : i < l.length := by omega
    have hd : l.drop i = gt l i :: l.drop (i + 1) := by rw [gt_of l i hlt, List.getElem_cons_drop]
    by_cases c : cvf mn x (gt l i) < 0
    · have h := put_yes (mn := mn) (x := x) hl d (i + 1) (o ++ [x] ++ [gt l i]) (by omega) (by rw [List.length_append, List.length_append]; simp; omega)
      rw [hd, ins_cons, if_pos c]
      rw [List.append_assoc, List.append_assoc] at h
      refine Evt.step h fun k => ?_
      rw [turnspitref08_put.l0, List.length_map, if_pos (by omega), if_pos (by omega), rd_un l i hlt]
      rw [show turnspitref08_Less.f mn x.1 x.2 (un (gt l i)).f0 (un (gt l i)).f1 = _ from rless mn x (gt l i), Option.bind_some, if_neg (by simp), if_pos (decide_eq_true c), if_pos (by rw [List.length_map]; omega), Option.bind_some, if_pos (by rw [List.length_append, List.length_map]; simp; omega)]
      rw [show wrap64 ((i : Int) + 1) = ((i + 1 : Nat) : Int) from by unfold wrap64; omega, ← List.append_assoc, List.map_append, List.map_append]
      rfl
    · have h := put_no (mn := mn) (x := x) hl d (i + 1) (o ++ [gt l i]) (by omega) (by rw [List.length_append]; simp; omega)
      rw [hd, ins_cons, if_neg c]
      rw [List.append_assoc] at h
      refine Evt.step h fun k => ?_
      rw [turnspitref08_put.l0, List.length_map, if_pos (by omega), if_pos (by omega), rd_un l i hlt]
      rw [show turnspitref08_Less.f mn x.1 x.2 (un (gt l i)).f0 (un (gt l i)).f1 = _ from rless mn x (gt l i), Option.bind_some, if_neg (by simp), if_neg (by simpa using c), if_pos (by rw [List.length_map]; omega)]
      rw [show wrap64 ((i : Int) + 1) = ((i + 1 : Nat) : Int) from by unfold wrap64; omega, List.map_append]
      rfl
theorem rput (mn : Int) {l : List K} (x : K) (hl : l.length ≤ 1000) : Evt (fun k => turnspitref08_put.f k mn (l.map un) x.1 x.2) ((ins mn l x).map un) := by
  have h := put_no (mn := mn) (l := l) (x := x) hl l.length 0 [] (by omega) (by simp; omega)
  exact h
theorem ins_weak {mn : Int} {k : K} : ∀ {l : List K}, l.Pairwise (fun x y => ¬ cvf mn y x < 0) → (ins mn l k).Pairwise (fun x y => ¬ cvf mn y x < 0)
  | [], _ => by rw [ins_nil]; exact List.pairwise_singleton _ _
  | x :: t, h => by
    have h1 := List.pairwise_cons.1 h
    rw [ins_cons]
    split
    · rename_i c
      refine List.pairwise_cons.2 ⟨fun y hy => ?_, h⟩
      rcases List.mem_cons.1 hy with rfl | hy
      · exact lt_asymm c
      · have := h1.1 y hy
        rw [cv_lt] at *
        omega
    · rename_i c
      refine List.pairwise_cons.2 ⟨fun y hy => ?_, ins_weak h1.2⟩
      rcases List.mem_cons.1 ((ins_perm mn k t).mem_iff.1 hy) with rfl | hy
      · exact c
      · exact h1.1 y hy
end

section
theorem at_step {l : List K} {id : Int} (hl : l.length ≤ 1000) : ∀ (d i : Nat), d + i = l.length → (∀ t, t < i → ((gt l t).2 == id) = false) → Evt (fun k => turnspitref08_at.l0 k (l.map un) id (i : Int)) (idxI (fun x => x.2 == id) l)
  | 0, i, hi, h => by
    rw [idxI_no (fun t ht => h t (by omega))]
    refine Evt.step (Evt.now _) fun k => ?_
    rw [turnspitref08_at.l0, List.length_map, if_neg (by omega)]
  | d + 1, i, hi, h => by
    have hlt : i < l.length := by omega
    by_cases c : (gt l i).2 = id
    · rw [idxI_yes i hlt (by simpa using c) h]
      refine Evt.step (Evt.now _) fun k => ?_
      rw [turnspitref08_at.l0, List.length_map, if_pos (by omega), if_pos (by omega), rd_un l i hlt, if_pos (by exact c)]
    · refine Evt.step (at_step hl d (i + 1) (by omega) (fun t ht => ?_)) fun k => ?_
      · by_cases e : t = i
        · subst e; simpa using c
        · exact h t (by omega)
      · rw [turnspitref08_at.l0, List.length_map, if_pos (by omega), if_pos (by omega), rd_un l i hlt, if_neg (by exact c), show wrap64 ((i : Int) + 1) = ((i + 1 : Nat) : Int) from by unfold wrap64; omega]
theorem rat {l : List K} (id : Int) (hl : l.length ≤ 1000) : Evt (fun k => turnspitref08_at.f k (l.map un) id) (idxI (fun x => x.2 == id) l) := at_step hl l.length 0 (by omega) (fun t ht => by omega)
theorem rPut (mn : Int) {l : List K} (x : K) (hl : l.length ≤ 1000) : Evt (fun k => turnspitref08_Put.f k mn (l.map un) x.1 x.2) ((putK (cvf mn) l x).1.map un, (putK (cvf mn) l x).2) := by
  refine Evt.bind (rsorted mn hl) (h := fun k t166 => if t166 = true then ((turnspitref08_at.f k (l.map un) x.2).bind fun t167 => (if t167 ≥ 0 then (some (([] : List (S26)), 1)) else ((turnspitref08_put.f k mn (l.map un) x.1 x.2).bind fun t168 => (some (t168, 0))))) else (some (([] : List (S26)), 4))) ?_
  unfold putK
  cases hs : sortedK (cvf mn) l with
  | false => exact ⟨0, fun k _ => rfl⟩
  | true =>
    simp only [if_true]
    refine Evt.bind (rat x.2 hl) (h := fun k t167 => if t167 ≥ 0 then (some (([] : List (S26)), 1)) else ((turnspitref08_put.f k mn (l.map un) x.1 x.2).bind fun t168 => (some (t168, 0)))) ?_
    by_cases c : 0 ≤ idxI (fun y => y.2 == x.2) l
    · rw [if_neg (by simp), if_pos c]
      refine ⟨0, fun k _ => ?_⟩
      show (if idxI (fun y => y.2 == x.2) l ≥ 0 then _ else _) = _
      rw [if_pos c]; rfl
    · rw [if_neg (by simp), if_neg c]
      obtain ⟨K, hK⟩ := Evt.bind (rput mn x hl) (h := fun k t168 => some (t168, (0 : Int))) (Evt.now _)
      refine ⟨K, fun k hk => ?_⟩
      show (if idxI (fun y => y.2 == x.2) l ≥ 0 then _ else _) = _
      rw [if_neg c]
      exact hK k hk
theorem rDrop (mn : Int) {l : List K} (id : Int) (hl : l.length ≤ 1000) : Evt (fun k => turnspitref08_Drop.f k mn (l.map un) id) ((dropK (cvf mn) l id).1.map un, (dropK (cvf mn) l id).2) := by
  refine Evt.bind (rsorted mn hl) (h := fun k t171 => (if t171 = true then ((turnspitref08_at.f k (l.map un) id).bind fun t172 => (if t172 < 0 then (some (([] : List (S26)), 8)) else (if 0 ≤ t172 then (if t172 ≤ ((l.map un).length : Int) then ((some ((l.map un).take (t172 : Int).toNat : List (S26))).bind fun y173 => (if ([] : List (S26)).length + y173.length < 8796093022208 then ((some (([] : List (S26)) ++ y173 : List (S26))).bind fun y177 => (if 0 ≤ (wrap64 (t172 + 1)) then (if (wrap64 (t172 + 1)) ≤ ((l.map un).length : Int) then ((some ((l.map un).drop ((wrap64 (t172 + 1)) : Int).toNat : List (S26))).bind fun y180 => (if y177.length + y180.length < 8796093022208 then (some ((y177 ++ y180), 0)) else (none))) else (none)) else (none))) else (none))) else (none)) else (none)))) else (some (([] : List (S26)), 4)))) ?_
  unfold dropK
  cases hs : sortedK (cvf mn) l with
  | false => exact ⟨0, fun k _ => rfl⟩
  | true =>
    simp only [if_true]
    refine Evt.bind (rat id hl) (h := fun k t172 => (if t172 < 0 then (some (([] : List (S26)), 8)) else (if 0 ≤ t172 then (if t172 ≤ ((l.map un).length : Int) then ((some ((l.map un).take (t172 : Int).toNat : List (S26))).bind fun y173 => (if ([] : List (S26)).length + y173.length < 8796093022208 then ((some (([] : List (S26)) ++ y173 : List (S26))).bind fun y177 => (if 0 ≤ (wrap64 (t172 + 1)) then (if (wrap64 (t172 + 1)) ≤ ((l.map un).length : Int) then ((some ((l.map un).drop ((wrap64 (t172 + 1)) : Int).toNat : List (S26))).bind fun y180 => (if y177.length + y180.length < 8796093022208 then (some ((y177 ++ y180), (0 : Int))) else (none))) else (none)) else (none))) else (none))) else (none)) else (none)))) ?_
    have hx := idxI_ge (fun y => y.2 == id) l
    simp only [Bool.true_eq_false, if_false]
    generalize idxI (fun y => y.2 == id) l = t at hx ⊢
    by_cases c : t < 0
    · refine ⟨0, fun k _ => ?_⟩
      simp only [if_pos c]
      rfl
    · refine ⟨0, fun k _ => ?_⟩
      have e : wrap64 (t + 1) = t + 1 := by unfold wrap64; omega
      simp only [if_neg c]
      rw [if_pos (by omega), List.length_map, if_pos (by omega), Option.bind_some, if_pos (by rw [List.length_take, List.length_map]; simp; omega), Option.bind_some, e, if_pos (by omega), if_pos (by omega), Option.bind_some, if_pos (by rw [List.nil_append, List.length_take, List.length_drop, List.length_map]; omega)]
      rw [List.nil_append, List.map_append, List.map_take, List.map_drop, show (t + 1).toNat = t.toNat + 1 by omega]
end
theorem puts (a0 : Int) (l1 : List S26) (x : S26) (w0 : (Lit.int .u64 a0).wf = true) (hG : ∀ x ∈ l1, (Lit.int .u64 x.f0).wf = true ∧ (Lit.int .i64 x.f1).wf = true) (hx : (Lit.int .u64 x.f0).wf = true ∧ (Lit.int .i64 x.f1).wf = true) : ∃ k, turnspitlaw08_KeyPuts.f k a0 l1 x.f0 x.f1 = some true := by
  by_cases c : l1.length ≤ 60
  · have hok := okR_un c hG
    have hlen : (l1.map fun s => ((s.f0, s.f1) : K)).length ≤ 60 := by rw [List.length_map]; exact c
    rw [← un_map l1]
    generalize (l1.map fun s => ((s.f0, s.f1) : K)) = l at hok hlen
    have hp : (putK (cvf a0) l (x.f0, x.f1)).1.length ≤ 61 := by
      unfold putK
      split
      · simp
      · split
        · simp
        · show (ins a0 l (x.f0, x.f1)).length ≤ 61
          rw [(ins_perm a0 (x.f0, x.f1) l).length_eq, List.length_cons]; omega
    have hd : (dropK (cvf a0) l x.f1).1.length ≤ 61 := by
      unfold dropK
      split
      · simp
      · split
        · simp
        · rw [List.length_append, List.length_take, List.length_drop]; omega
    have h1 := rPut a0 (l := l) (x.f0, x.f1) (by omega)
    have h2 := rDrop a0 (l := l) x.f1 (by omega)
    have s1 := rsame (l := (putK (cvf a0) l (x.f0, x.f1)).1) (by omega)
    have s2 := rsame (l := (dropK (cvf a0) l x.f1).1) (by omega)
    obtain ⟨K1, k1⟩ := h1
    obtain ⟨K2, k2⟩ := h2
    obtain ⟨K3, k3⟩ := s1
    obtain ⟨K4, k4⟩ := s2
    refine ⟨K1 + K2 + K3 + K4, ?_⟩
    have e1 := k1 (K1 + K2 + K3 + K4) (by omega)
    have e2 := k2 (K1 + K2 + K3 + K4) (by omega)
    have e3 := k3 (K1 + K2 + K3 + K4) (by omega)
    have e4 := k4 (K1 + K2 + K3 + K4) (by omega)
    simp only at e1 e2 e3 e4
    rw [turnspitlaw08_KeyPuts.f, List.length_map, if_neg (by omega), show key_Put.f a0 (l.map un) x.f0 x.f1 = _ from Put_un (x.f0, x.f1) hok, Option.bind_some, e1, Option.bind_some, Drop_un _ hok, Option.bind_some, e2, Option.bind_some, turnspitlaw08_awake.f, Option.bind_some, if_pos rfl]
    simp only [e3, Option.bind_some, if_true, e4, beq_self_eq_true]
  · refine ⟨0, ?_⟩
    rw [turnspitlaw08_KeyPuts.f, if_pos (by omega)]
    rfl
end Go.Proofs.Ytahnkldkbbkflaa.QKeyPuts
