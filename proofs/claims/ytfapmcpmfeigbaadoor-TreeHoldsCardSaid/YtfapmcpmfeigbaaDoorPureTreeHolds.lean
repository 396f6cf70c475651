/- The pure law of TreeHolds; no condition. -/
import Derived.Test.YtfapmcpmfeigbaaDoorQTreeHoldsx
import Derived.Test.YtfapmcpmfeigbaaDoorTmP
namespace Go.Proofs.YtfapmcpmfeigbaaDoor.QTreeHolds
open Go.RowKit Go Go.Proofs Go.Proofs.YtfapmcpmfeigbaaDoor Go.Proofs.YtfapmcpmfeigbaaDoor.Tr Go.Proofs.YtfapmcpmfeigbaaDoor.Tk Go.Proofs.YtfapmcpmfeigbaaDoor.Tm Go.Proofs.YtfapmcpmfeigbaaDoorW.PrintWords Go.Proofs.YtfapmcpmfeigbaaDoorW.PrintLast
set_option linter.unusedVariables false
def un (k : K) : S27 := ⟨k.1, k.2⟩
theorem rd_un (l : List K) (i : Nat) (h : i < l.length) : rd_T27 (l.map un) (i : Int) = un (gt l i) := by
 unfold rd_T27
 rw [Int.toNat_natCast, List.getD_eq_getElem?_getD, List.getElem?_map, List.getElem?_eq_getElem h, gt_of l i h]
 rfl
theorem rlag (a b : Int) : turnspitref03_Lag.f a b = some (lagf b a) := by
 unfold turnspitref03_Lag.f lagf
 simp only [w64, wrap64]
 split
 ·rfl
 ·congr 1
  omega
theorem rless (mn : Int) (x y : K) : turnspitref08_Less.f mn x.1 x.2 y.1 y.2 = some (decide (cvf mn x y < 0)) := by
 unfold turnspitref08_Less.f
 simp only [rlag, Option.bind_some]
 split
 ·exact congrArg some (decide_eq_true (by rw [cv_lt]; omega)).symm
 ·split
  ·congr 1
   rw [decide_eq_decide, cv_lt]; omega
  ·exact congrArg some (decide_eq_false (by rw [cv_lt]; omega)).symm
open Classical in
theorem sorted_l1 {mn : Int} {l : List K} (hl : l.length ≤ 1000) (i : Nat) (hi : i < l.length) (R : Bool) (hR : Evt (fun k => turnspitref08_Sorted.l0 k mn (l.map un) ((i + 1 : Nat) : Int)) R) : ∀ (d j : Nat), d + j = i →
  Evt (fun k => turnspitref08_Sorted.l1 k mn (l.map un) (i : Int) (j : Int)) (decide (∀ t, j ≤ t → t < i → cvf mn (gt l t) (gt l i) < 0 ∧ (gt l t).2 ≠ (gt l i).2) && R)
 | 0, j, hj => by
  rw [show decide (∀ t, j ≤ t → t < i → cvf mn (gt l t) (gt l i) < 0 ∧ (gt l t).2 ≠ (gt l i).2) = true from decide_eq_true (fun t h1 h2 => by omega), Bool.true_and]
  refine Evt.step hR fun k => ?_
  rw [turnspitref08_Sorted.l1, if_neg (by omega), show wrap64 ((i : Int) + 1) = ((i + 1 : Nat) : Int) from by unfold wrap64; omega]
 | d + 1, j, hj => by
  have hstep : ∀ k, turnspitref08_Sorted.l1 (k + 1) mn (l.map un) (i : Int) (j : Int) = if cvf mn (gt l j) (gt l i) < 0 then (if (gt l j).2 = (gt l i).2 then some false else turnspitref08_Sorted.l1 k mn (l.map un) (i : Int) ((j + 1 : Nat) : Int)) else some false := fun k => by
   rw [turnspitref08_Sorted.l1, List.length_map, if_pos (by omega), if_pos (by omega), if_pos (by omega), if_pos (by omega), if_pos (by omega), rd_un l j (by omega), rd_un l i hi]
   rw [show turnspitref08_Less.f mn (un (gt l j)).f0 (un (gt l j)).f1 (un (gt l i)).f0 (un (gt l i)).f1 = _ from rless mn (gt l j) (gt l i), Option.bind_some]
   rw [show wrap64 ((j : Int) + 1) = ((j + 1 : Nat) : Int) from by unfold wrap64; omega]
   by_cases c : cvf mn (gt l j) (gt l i) < 0
   ·rw [if_pos (decide_eq_true c), if_pos c]; rfl
   ·rw [if_neg (by simpa using c), if_neg c]
  by_cases c : cvf mn (gt l j) (gt l i) < 0 ∧ (gt l j).2 ≠ (gt l i).2
  ·have e : decide (∀ t, j ≤ t → t < i → cvf mn (gt l t) (gt l i) < 0 ∧ (gt l t).2 ≠ (gt l i).2) = decide (∀ t, j + 1 ≤ t → t < i → cvf mn (gt l t) (gt l i) < 0 ∧ (gt l t).2 ≠ (gt l i).2) := by
    rw [decide_eq_decide]
    refine ⟨fun h t h1 h2 => h t (by omega) h2, fun h t h1 h2 => ?_⟩
    by_cases e : t = j
    ·subst e; exact c
    ·exact h t (by omega) h2
   rw [e]
   refine Evt.step (sorted_l1 hl i hi R hR d (j + 1) (by omega)) fun k => ?_
   rw [hstep, if_pos c.1, if_neg c.2]
  ·have e : decide (∀ t, j ≤ t → t < i → cvf mn (gt l t) (gt l i) < 0 ∧ (gt l t).2 ≠ (gt l i).2) = false := decide_eq_false (fun h => c (h j (Nat.le_refl _) (by omega)))
   rw [e, Bool.false_and]
   refine Evt.step (Evt.now false) fun k => ?_
   rw [hstep]
   by_cases c1 : cvf mn (gt l j) (gt l i) < 0
   ·rw [if_pos c1, if_pos (by apply Classical.byContradiction; intro h; exact c ⟨c1, h⟩)]
   ·rw [if_neg c1]
open Classical in
theorem sorted_l0 {mn : Int} {l : List K} (hl : l.length ≤ 1000) : ∀ (d i : Nat), d + i = l.length →
  Evt (fun k => turnspitref08_Sorted.l0 k mn (l.map un) (i : Int)) (decide (∀ s, i ≤ s → s < l.length → ∀ t, t < s → cvf mn (gt l t) (gt l s) < 0 ∧ (gt l t).2 ≠ (gt l s).2))
 | 0, i, hi => by
  rw [show decide (∀ s, i ≤ s → s < l.length → ∀ t, t < s → cvf mn (gt l t) (gt l s) < 0 ∧ (gt l t).2 ≠ (gt l s).2) = true from decide_eq_true (fun s h1 h2 => by omega)]
  refine Evt.step (Evt.now true) fun k => ?_
  rw [turnspitref08_Sorted.l0, List.length_map, if_neg (by omega)]
 | d + 1, i, hi => by
  have h := sorted_l1 hl i (by omega) _ (sorted_l0 (mn := mn) hl d (i + 1) (by omega)) i 0 (by omega)
  rw [← Bool.decide_and] at h
  have e : decide (∀ s, i ≤ s → s < l.length → ∀ t, t < s → cvf mn (gt l t) (gt l s) < 0 ∧ (gt l t).2 ≠ (gt l s).2) = decide ((∀ t, 0 ≤ t → t < i → cvf mn (gt l t) (gt l i) < 0 ∧ (gt l t).2 ≠ (gt l i).2) ∧ ∀ s, i + 1 ≤ s → s < l.length → ∀ t, t < s → cvf mn (gt l t) (gt l s) < 0 ∧ (gt l t).2 ≠ (gt l s).2) := by
   rw [decide_eq_decide]
   refine ⟨fun h => ⟨fun t _ ht => h i (Nat.le_refl _) (by omega) t ht, fun s h1 h2 => h s (by omega) h2⟩, fun h s h1 h2 t ht => ?_⟩
   by_cases e : s = i
   ·subst e; exact h.1 t (Nat.zero_le _) ht
   ·exact h.2 s (by omega) h2 t ht
  rw [e]
  refine Evt.step h fun k => ?_
  rw [turnspitref08_Sorted.l0, List.length_map, if_pos (by omega)]
  rfl
open Classical in
theorem rsorted (mn : Int) {l : List K} (hl : l.length ≤ 1000) : Evt (fun k => turnspitref08_Sorted.f k mn (l.map un)) (sortedK (cvf mn) l) := by
 have h := sorted_l0 (mn := mn) hl l.length 0 (by omega)
 have e : decide (∀ s, 0 ≤ s → s < l.length → ∀ t, t < s → cvf mn (gt l t) (gt l s) < 0 ∧ (gt l t).2 ≠ (gt l s).2) = sortedK (cvf mn) l := by
  rw [Bool.eq_iff_iff, decide_eq_true_iff, sortedK_iff]
  constructor
  ·intro h
   refine ⟨List.pairwise_iff_getElem.2 fun i j hi hj hij => ?_, List.pairwise_iff_getElem.2 fun i j hi hj hij => ?_⟩
   ·have := (h j (Nat.zero_le _) hj i hij).1
    rwa [gt_of l i hi, gt_of l j hj] at this
   ·have := (h j (Nat.zero_le _) hj i hij).2
    rwa [gt_of l i hi, gt_of l j hj] at this
  ·intro h s _ hs t ht
   rw [gt_of l s hs, gt_of l t (by omega)]
   exact ⟨List.pairwise_iff_getElem.1 h.pw t s (by omega) hs ht, List.pairwise_iff_getElem.1 h.nd t s (by omega) hs ht⟩
 rw [e] at h
 exact h
theorem same_step {l : List K} (hl : l.length ≤ 1000) : ∀ (d i : Nat), d + i = l.length → Evt (fun k => turnspitref08_Same.l0 k (l.map un) (l.map un) (i : Int)) true
 | 0, i, hi => by
  refine Evt.step (Evt.now true) fun k => ?_
  rw [turnspitref08_Same.l0, List.length_map, if_neg (by omega)]
 | d + 1, i, hi => by
  refine Evt.step (same_step hl d (i + 1) (by omega)) fun k => ?_
  rw [turnspitref08_Same.l0, List.length_map, if_pos (by omega), if_pos (by omega), if_pos (by omega), if_neg (by simp), show wrap64 ((i : Int) + 1) = ((i + 1 : Nat) : Int) from by unfold wrap64; omega]
theorem rsame {l : List K} (hl : l.length ≤ 1000) : Evt (fun k => turnspitref08_Same.f k (l.map un) (l.map un)) true := by
 obtain ⟨K, hK⟩ := same_step hl l.length 0 (by omega)
 exact ⟨K, fun k hk => by
  show turnspitref08_Same.f k (l.map un) (l.map un) = _
  rw [turnspitref08_Same.f, if_pos rfl]; exact hK k hk⟩
theorem put_yes {mn : Int} {l : List K} {x : K} (hl : l.length ≤ 1000) : ∀ (d i : Nat) (o : List K), d + i = l.length → o.length + d ≤ 2000 → Evt (fun k => turnspitref08_put.l0 k mn (l.map un) (o.map un) true (i : Int) x.1 x.2) ((o ++ l.drop i).map un)
 | 0, i, o, hi, ho => by
  refine Evt.step (Evt.now _) fun k => ?_
  rw [turnspitref08_put.l0, List.length_map, if_neg (by omega), if_pos rfl, List.drop_eq_nil_of_le (by omega), List.append_nil]
 | d + 1, i, o, hi, ho => by
  have hlt : i < l.length := by omega
  have h := put_yes (mn := mn) (x := x) hl d (i + 1) (o ++ [gt l i]) (by omega) (by rw [List.length_append]; simp; omega)
  rw [List.append_assoc, gt_of l i hlt, List.singleton_append, List.getElem_cons_drop] at h
  refine Evt.step h fun k => ?_
  rw [turnspitref08_put.l0, List.length_map, if_pos (by omega), if_pos (by omega), rd_un l i hlt]
  rw [show turnspitref08_Less.f mn x.1 x.2 (un (gt l i)).f0 (un (gt l i)).f1 = _ from rless mn x (gt l i), Option.bind_some, if_pos rfl, if_pos (by rw [List.length_map]; omega)]
  rw [show wrap64 ((i : Int) + 1) = ((i + 1 : Nat) : Int) from by unfold wrap64; omega, List.map_append, gt_of l i hlt]
  rfl
theorem put_no {mn : Int} {l : List K} {x : K} (hl : l.length ≤ 1000) : ∀ (d i : Nat) (o : List K), d + i = l.length → o.length + d ≤ 1000 → Evt (fun k => turnspitref08_put.l0 k mn (l.map un) (o.map un) false (i : Int) x.1 x.2) ((o ++ ins mn (l.drop i) x).map un)
 | 0, i, o, hi, ho => by
  refine Evt.step (Evt.now _) fun k => ?_
  rw [turnspitref08_put.l0, List.length_map, if_neg (by omega), if_neg (by simp), if_pos (by rw [List.length_map]; omega), List.drop_eq_nil_of_le (by omega), ins_nil, List.map_append]
  rfl
 | d + 1, i, o, hi, ho => by
  have hlt : i < l.length := by omega
  have hd : l.drop i = gt l i :: l.drop (i + 1) := by rw [gt_of l i hlt, List.getElem_cons_drop]
  by_cases c : cvf mn x (gt l i) < 0
  ·have h := put_yes (mn := mn) (x := x) hl d (i + 1) (o ++ [x] ++ [gt l i]) (by omega) (by rw [List.length_append, List.length_append]; simp; omega)
   rw [hd, ins_cons, if_pos c]
   rw [List.append_assoc, List.append_assoc] at h
   refine Evt.step h fun k => ?_
   rw [turnspitref08_put.l0, List.length_map, if_pos (by omega), if_pos (by omega), rd_un l i hlt]
   rw [show turnspitref08_Less.f mn x.1 x.2 (un (gt l i)).f0 (un (gt l i)).f1 = _ from rless mn x (gt l i), Option.bind_some, if_neg (by simp), if_pos (decide_eq_true c), if_pos (by rw [List.length_map]; omega), Option.bind_some, if_pos (by rw [List.length_append, List.length_map]; simp; omega)]
   rw [show wrap64 ((i : Int) + 1) = ((i + 1 : Nat) : Int) from by unfold wrap64; omega, ← List.append_assoc, List.map_append, List.map_append]
   rfl
  ·have h := put_no (mn := mn) (x := x) hl d (i + 1) (o ++ [gt l i]) (by omega) (by rw [List.length_append]; simp; omega)
   rw [hd, ins_cons, if_neg c]
   rw [List.append_assoc] at h
   refine Evt.step h fun k => ?_
   rw [turnspitref08_put.l0, List.length_map, if_pos (by omega), if_pos (by omega), rd_un l i hlt]
   rw [show turnspitref08_Less.f mn x.1 x.2 (un (gt l i)).f0 (un (gt l i)).f1 = _ from rless mn x (gt l i), Option.bind_some, if_neg (by simp), if_neg (by simpa using c), if_pos (by rw [List.length_map]; omega)]
   rw [show wrap64 ((i : Int) + 1) = ((i + 1 : Nat) : Int) from by unfold wrap64; omega, List.map_append]
   rfl
theorem rput (mn : Int) {l : List K} (x : K) (hl : l.length ≤ 1000) : Evt (fun k => turnspitref08_put.f k mn (l.map un) x.1 x.2) ((ins mn l x).map un) := by
 have h := put_no (mn := mn) (l := l) (x := x) hl l.length 0 [] (by omega) (by simp; omega)
 exact h
theorem at_step {l : List K} {id : Int} (hl : l.length ≤ 1000) : ∀ (d i : Nat), d + i = l.length → (∀ j (hj : j < i) (hl : j < l.length), l[j].2 ≠ id) →
  Evt (fun k => turnspitref08_at.l0 k (l.map un) id (i : Int)) (if l.findIdx (fun x => x.2 == id) < l.length then (l.findIdx (fun x => x.2 == id) : Int) else -1)
 | 0, i, hi, hn => by
  have e : l.findIdx (fun x => x.2 == id) = l.length := List.findIdx_eq_length.2 fun x hx => by
   obtain ⟨j, hj, rfl⟩ := List.mem_iff_getElem.1 hx
   exact beq_eq_false_iff_ne.2 (hn j (by omega) hj)
  rw [e, if_neg (by omega)]
  refine Evt.step (Evt.now _) fun k => ?_
  rw [turnspitref08_at.l0, List.length_map, if_neg (by omega)]
 | d + 1, i, hi, hn => by
  have hlt : i < l.length := by omega
  by_cases c : l[i].2 = id
  ·have e : l.findIdx (fun x => x.2 == id) = i := (List.findIdx_eq hlt).2 ⟨by simpa using c, fun j hj => beq_eq_false_iff_ne.2 (hn j hj (by omega))⟩
   rw [e, if_pos hlt]
   refine Evt.step (Evt.now _) fun k => ?_
   rw [turnspitref08_at.l0, List.length_map, if_pos (by omega), if_pos (by omega), rd_un l i hlt, gt_of l i hlt, if_pos (show (un l[i]).f1 = id from c)]
  ·refine Evt.step (at_step hl d (i + 1) (by omega) (fun j hj hl => by
    by_cases e : j = i
    ·subst e; exact c
    ·exact hn j (by omega) hl)) fun k => ?_
   rw [turnspitref08_at.l0, List.length_map, if_pos (by omega), if_pos (by omega), rd_un l i hlt, gt_of l i hlt, if_neg (show ¬ (un l[i]).f1 = id from c)]
   rw [show wrap64 ((i : Int) + 1) = ((i + 1 : Nat) : Int) from by unfold wrap64; omega]
theorem rat {l : List K} {id : Int} (hl : l.length ≤ 1000) : Evt (fun k => turnspitref08_at.f k (l.map un) id) (if l.findIdx (fun x => x.2 == id) < l.length then (l.findIdx (fun x => x.2 == id) : Int) else -1) :=
 at_step hl l.length 0 (by omega) (fun j hj => absurd hj (by omega))
theorem idx_lt {l : List K} {id : Int} (h : ∃ x ∈ l, x.2 = id) : l.findIdx (fun x => x.2 == id) < l.length := by
 obtain ⟨x, hx, e⟩ := h
 exact List.findIdx_lt_length_of_exists ⟨x, hx, by simp [e]⟩
theorem idx_ge {l : List K} {id : Int} (h : ∀ x ∈ l, x.2 ≠ id) : ¬ l.findIdx (fun x => x.2 == id) < l.length := by
 rw [List.findIdx_eq_length.2 fun x hx => beq_eq_false_iff_ne.2 (h x hx)]
 omega
theorem rdrop_yes {mn : Int} {l : List K} {id : Int} (hl : l.length ≤ 1000) (hS : SS mn l) (h : ∃ x ∈ l, x.2 = id) : Evt (fun k => turnspitref08_Drop.f k mn (l.map un) id) ((del l id).map un, 0) := by
 have hlt := idx_lt h
 have h1 := rat (id := id) hl
 rw [if_pos hlt] at h1
 unfold turnspitref08_Drop.f
 refine Evt.bind (rsorted mn hl) (h := fun k t137 => _) ?_
 rw [sortedK_iff.2 hS]
 simp only [if_true]
 refine Evt.bind h1 (h := fun k t138 => _) ?_
 unfold del
 generalize l.findIdx (fun x => x.2 == id) = i at *
 refine ⟨0, fun k _ => ?_⟩
 have hw : wrap64 ((i : Int) + 1) = ((i + 1 : Nat) : Int) := by unfold wrap64; omega
 simp only [hw, List.length_map]
 rw [if_neg (by omega), if_pos (by omega), if_pos (by omega), Option.bind_some, if_pos (by simp; omega), Option.bind_some, if_pos (by omega), if_pos (by omega), Option.bind_some, if_pos (by simp; omega)]
 simp only [Int.toNat_natCast, List.nil_append, List.map_append, List.map_take, List.map_drop]
theorem rdrop_no {mn : Int} {l : List K} {id : Int} (hl : l.length ≤ 1000) (hS : SS mn l) (h : ∀ x ∈ l, x.2 ≠ id) : Evt (fun k => turnspitref08_Drop.f k mn (l.map un) id) ([], 8) := by
 have h1 := rat (id := id) hl
 rw [if_neg (idx_ge h)] at h1
 unfold turnspitref08_Drop.f
 refine Evt.bind (rsorted mn hl) (h := fun k t137 => _) ?_
 rw [sortedK_iff.2 hS]
 simp only [if_true]
 refine Evt.bind h1 (h := fun k t138 => _) ?_
 refine ⟨0, fun k _ => ?_⟩
 rfl
theorem rPut_yes {mn : Int} {l : List K} {x : K} (hl : l.length ≤ 1000) (hS : SS mn l) (h : ∀ y ∈ l, y.2 ≠ x.2) : Evt (fun k => turnspitref08_Put.f k mn (l.map un) x.1 x.2) ((ins mn l x).map un, 0) := by
 have h1 := rat (id := x.2) hl
 rw [if_neg (idx_ge h)] at h1
 unfold turnspitref08_Put.f
 refine Evt.bind (rsorted mn hl) (h := fun k t137 => _) ?_
 rw [sortedK_iff.2 hS]
 simp only [if_true]
 refine Evt.bind h1 (h := fun k t138 => _) ?_
 simp only [show ¬ ((-1 : Int) ≥ 0) by omega, if_false]
 refine Evt.bind (rput mn x hl) (h := fun k t138 => _) ?_
 exact Evt.now _
theorem rPut_no {mn : Int} {l : List K} {x : K} (hl : l.length ≤ 1000) (hS : SS mn l) (h : ∃ y ∈ l, y.2 = x.2) : Evt (fun k => turnspitref08_Put.f k mn (l.map un) x.1 x.2) ([], 1) := by
 have h1 := rat (id := x.2) hl
 rw [if_pos (idx_lt h)] at h1
 unfold turnspitref08_Put.f
 refine Evt.bind (rsorted mn hl) (h := fun k t137 => _) ?_
 rw [sortedK_iff.2 hS]
 simp only [if_true]
 refine Evt.bind h1 (h := fun k t138 => _) ?_
 simp only [show ((l.findIdx (fun y => y.2 == x.2) : Nat) : Int) ≥ 0 by omega, if_true]
 exact Evt.now _

theorem nd_un (l : List Nd) : (l.map tree_Insert.un).map tree_Insert.nd = l := by
 rw [List.map_map]; exact List.map_id l
theorem ins_f (t : St) (mn v i : Int) (h : t.ns.length ≤ 64) : tree_Insert.f t.rt (t.ns.map tree_Insert.un) mn v i = (insA t mn (v, i)).map (fun r => (r.1.rt, r.1.ns.map tree_Insert.un, r.2)) := by
 unfold tree_Insert.f
 rw [if_pos (show tree_Insert.okN _ = true from decide_eq_true (by rw [List.length_map]; omega)), nd_un]
theorem del_f (t : St) (mn i : Int) (h : t.ns.length ≤ 64) : tree_Delete.f t.rt (t.ns.map tree_Insert.un) mn i = (delF t mn i).map (fun r => (r.1.rt, r.1.ns.map tree_Insert.un, r.2)) := by
 unfold tree_Delete.f
 rw [if_pos (show tree_Delete.okN _ = true from decide_eq_true (by rw [List.length_map]; omega))]
 rw [show (t.ns.map tree_Insert.un).map tree_Delete.nd = t.ns from nd_un _]
 rfl
theorem walk_f (t : St) (h : t.ns.length ≤ 64) : tree_Walk.f t.rt (t.ns.map tree_Insert.un) = some ((walkA t).map un) := by
 unfold tree_Walk.f
 rw [if_pos (show tree_Walk.okN _ = true from decide_eq_true (by rw [List.length_map]; omega))]
 rw [show (t.ns.map tree_Insert.un).map tree_Walk.nd = t.ns from nd_un _]
 rfl
theorem right_f (t : St) (mn : Int) (h : t.ns.length ≤ 64) : tree_Right.f t.rt (t.ns.map tree_Insert.un) mn = some (rightA t mn) := by
 unfold tree_Right.f
 rw [if_pos (show tree_Right.okN _ = true from decide_eq_true (by rw [List.length_map]; omega))]
 rw [show (t.ns.map tree_Insert.un).map tree_Right.nd = t.ns from nd_un _]

theorem step_j3 {mn : Int} {ls : List Int} {t : St} {L : List K} {i : Nat} (hi : i < 1000) (h : J mn 32 t L) (ih : Evt (fun k => turnspitlaw09_TreeHolds.l0 k mn ls true (L.map un) ((i + 1 : Nat) : Int) t.rt (t.ns.map tree_Insert.un)) true) :
  Evt (fun k => turnspitlaw09_TreeHolds.j3 k mn ls true (L.map un) (i : Int) t.rt (t.ns.map tree_Insert.un)) true := by
 refine Evt.step (Evt.bind (rsame (l := L) (by have := h.small; omega)) (h := fun k t216 => if t216 = true then (turnspitlaw09_TreeHolds.l0 k mn ls true (L.map un) ((i + 1 : Nat) : Int) t.rt (t.ns.map tree_Insert.un)) else (some false)) ?_) fun k => ?_
 ·simp only [if_true]
  exact ih
 ·rw [turnspitlaw09_TreeHolds.j3, right_f _ _ h.le, h.right, Option.bind_some, if_pos rfl, walk_f _ h.le, h.walk, Option.bind_some]
  rw [show wrap64 ((i : Int) + 1) = ((i + 1 : Nat) : Int) from by unfold wrap64; omega]
theorem step_j2 {mn : Int} {ls : List Int} {t t' : St} {L L' : List K} {i : Nat} (hi : i < 1000) {f : Int} {g : Int} {m : List S27} (hf : f = 0 ∧ g = 0 ∧ m = L'.map un ∧ J mn 32 t' L' ∨ f ≠ 0 ∧ g ≠ 0) (h : J mn 32 t L) (ih : ∀ t L, J mn 32 t L → Evt (fun k => turnspitlaw09_TreeHolds.l0 k mn ls true (L.map un) ((i + 1 : Nat) : Int) t.rt (t.ns.map tree_Insert.un)) true) :
  Evt (fun k => turnspitlaw09_TreeHolds.j2 k mn ls true (L.map un) (i : Int) f m g t.rt (t.ns.map tree_Insert.un) t'.rt (t'.ns.map tree_Insert.un)) true := by
 rcases hf with ⟨rfl, rfl, rfl, h'⟩ | ⟨f0, g0⟩
 ·refine Evt.step (step_j3 hi h' (ih _ _ h')) fun k => ?_
  rw [turnspitlaw09_TreeHolds.j2, if_neg (by simp), if_pos rfl]
 ·refine Evt.step (step_j3 hi h (ih _ _ h)) fun k => ?_
  rw [turnspitlaw09_TreeHolds.j2, if_neg (by rw [beq_eq_false_iff_ne.2 f0, beq_eq_false_iff_ne.2 g0]; simp), if_neg f0]
theorem op_f (mn x : Int) (hx : 0 ≤ x ∧ x ≤ 65535) : ∃ b v id, turnspitlaw09_Op.f mn x 32 = some (b, v, id) ∧ 0 ≤ id ∧ id < 32 := by
 refine ⟨_, _, _, by unfold turnspitlaw09_Op.f; rw [if_neg (by omega)], ?_⟩
 have e : wrap64 (Int.tdiv (wrap64 x) 4) = x / 4 := by
  rw [show wrap64 x = x from by unfold wrap64; omega, Int.tdiv_eq_ediv_of_nonneg hx.1]
  unfold wrap64; omega
 rw [e, Int.tmod_eq_emod_of_nonneg (by omega)]
 omega
theorem step_j1 {mn : Int} {ls : List Int} {t : St} {L : List K} {i : Nat} (hi : i < 1000) (hl : i < ls.length) (hw : 0 ≤ rd ls (i : Int) ∧ rd ls (i : Int) ≤ 65535) (h : J mn 32 t L) (ih : ∀ t L, J mn 32 t L → Evt (fun k => turnspitlaw09_TreeHolds.l0 k mn ls true (L.map un) ((i + 1 : Nat) : Int) t.rt (t.ns.map tree_Insert.un)) true) :
  Evt (fun k => turnspitlaw09_TreeHolds.j1 k mn ls true (L.map un) (i : Int) true t.rt (t.ns.map tree_Insert.un)) true := by
 obtain ⟨b, v, id, hop, g0, g1⟩ := op_f mn _ hw
 have hL : L.length ≤ 1000 := by have := h.small; omega
 have hD : ∃ (r : St × Int) (m : List S27) (g : Int) (L' : List K), delF t mn id = some r ∧ Evt (fun k => turnspitref08_Drop.f k mn (L.map un) id) (m, g) ∧ (r.2 = 0 ∧ g = 0 ∧ m = L'.map un ∧ J mn 32 r.1 L' ∨ r.2 ≠ 0 ∧ g ≠ 0) := by
  rcases del_J (id := id) h g0 (by omega) with ⟨t', e1, e2, e3⟩ | ⟨r, e1, e2, e3⟩
  ·exact ⟨(t', 0), _, 0, _, e1, rdrop_yes hL h.ss e3, Or.inl ⟨rfl, rfl, rfl, e2⟩⟩
  ·exact ⟨r, [], 8, [], e1, rdrop_no hL h.ss e3, Or.inr ⟨by rw [e2]; decide, by decide⟩⟩
 have hI : ∃ (r : St × Int) (m : List S27) (g : Int) (L' : List K), insA t mn (v, id) = some r ∧ Evt (fun k => turnspitref08_Put.f k mn (L.map un) v id) (m, g) ∧ (r.2 = 0 ∧ g = 0 ∧ m = L'.map un ∧ J mn 32 r.1 L' ∨ r.2 ≠ 0 ∧ g ≠ 0) := by
  rcases ins_J (k := (v, id)) h g0 (by show id < _; omega) with ⟨t', e1, e2, e3⟩ | ⟨r, e1, e2, e3⟩
  ·exact ⟨(t', 0), _, 0, _, e1, rPut_yes hL h.ss e3, Or.inl ⟨rfl, rfl, rfl, e2⟩⟩
  ·exact ⟨r, [], 1, [], e1, rPut_no hL h.ss e3, Or.inr ⟨by rw [e2]; decide, by decide⟩⟩
 obtain ⟨r, m, g, L', d1, d2, d3⟩ := hD
 obtain ⟨r', m', g', L2, i1, i2, i3⟩ := hI
 cases b with
 | true =>
  refine Evt.step (Evt.bind d2 (h := fun k bt198 => (turnspitref08_Put.f k mn (L.map un) v id).bind fun bt208 => (turnspitlaw09_TreeHolds.j2 k mn ls true (L.map un) (i : Int) r'.2 bt208.1 bt208.2 t.rt (t.ns.map tree_Insert.un) r'.1.rt (r'.1.ns.map tree_Insert.un))) (Evt.bind i2 (h := fun k bt208 => (turnspitlaw09_TreeHolds.j2 k mn ls true (L.map un) (i : Int) r'.2 bt208.1 bt208.2 t.rt (t.ns.map tree_Insert.un) r'.1.rt (r'.1.ns.map tree_Insert.un))) (step_j2 hi i3 h ih))) fun k => ?_
  rw [turnspitlaw09_TreeHolds.j1, if_pos rfl, if_pos (by omega), if_pos (by omega), hop, Option.bind_some, del_f _ _ _ h.le, d1, Option.map_some, Option.bind_some]
  simp only [if_true]
  rw [ins_f _ _ _ _ h.le, i1, Option.map_some, Option.bind_some]
 | false =>
  refine Evt.step (Evt.bind d2 (h := fun k bt198 => (turnspitlaw09_TreeHolds.j2 k mn ls true (L.map un) (i : Int) r.2 bt198.1 bt198.2 t.rt (t.ns.map tree_Insert.un) r.1.rt (r.1.ns.map tree_Insert.un))) (step_j2 hi d3 h ih)) fun k => ?_
  rw [turnspitlaw09_TreeHolds.j1, if_pos rfl, if_pos (by omega), if_pos (by omega), hop, Option.bind_some, del_f _ _ _ h.le, d1, Option.map_some, Option.bind_some]
  simp only [Bool.false_eq_true, if_false]
theorem loop (mn : Int) (ls : List Int) (hw : ∀ x ∈ ls, (Lit.int .u16 x).wf = true) : ∀ (d i : Nat) (t : St) (L : List K), J mn 32 t L → 60 ≤ d + i → Evt (fun k => turnspitlaw09_TreeHolds.l0 k mn ls true (L.map un) (i : Int) t.rt (t.ns.map tree_Insert.un)) true := by
 have done : ∀ (i : Nat) (t : St) (L : List K), ¬ (i < ls.length ∧ i < 60) → Evt (fun k => turnspitlaw09_TreeHolds.l0 k mn ls true (L.map un) (i : Int) t.rt (t.ns.map tree_Insert.un)) true := by
  intro i t L hlt
  refine Evt.step (h := fun k => turnspitlaw09_TreeHolds.j1 k mn ls true (L.map un) (i : Int) false t.rt (t.ns.map tree_Insert.un)) ?_ fun k => ?_
  ·refine Evt.step (Evt.now true) fun k => ?_
   rw [turnspitlaw09_TreeHolds.j1, if_neg (by simp)]
  ·rw [turnspitlaw09_TreeHolds.l0]
   split
   ·rw [show decide ((i : Int) < 60) = false from decide_eq_false (by omega)]
   ·rfl
 intro d
 induction d with
 | zero => exact fun i t L h hi => done i t L (by omega)
 | succ d ih =>
  intro i t L h hi
  by_cases hlt : i < ls.length ∧ i < 60
  ·have hx := hw (ls[i]) (List.getElem_mem hlt.1)
   have hr : rd ls (i : Int) = ls[i] := by
    unfold rd
    rw [Int.toNat_natCast, List.getD_eq_getElem?_getD, List.getElem?_eq_getElem hlt.1]
    rfl
   refine Evt.step (step_j1 (ls := ls) (i := i) (by omega) hlt.1 ?_ h (fun t L h => ih (i + 1) t L h (by omega))) fun k => ?_
   ·rw [hr]
    simp [Lit.wf, IntKind.min, IntKind.max, IntKind.signed, IntKind.bits] at hx
    omega
   ·rw [turnspitlaw09_TreeHolds.l0, if_pos (by omega), show decide ((i : Int) < 60) = true from decide_eq_true (by omega)]
  ·exact done i t L hlt
theorem tholds : turnspitlaw09_TreeHolds.Pure := by
 intro a0 l1 _ _ _ hw
 obtain ⟨n1, n2, n3⟩ := new_RT (n := 32) (by omega)
 obtain ⟨k, hk⟩ := (loop a0 l1 hw 60 0 (newA 32).1 [] (new_J a0 (n := 32) (by omega)) (by omega)).get
 refine ⟨k, ?_⟩
 rw [turnspitlaw09_TreeHolds.f, turnspitlaw09_awake.f, Option.bind_some, if_pos rfl, tree_New.f, Option.bind_some, if_pos (by rw [n3])]
 exact hk
end Go.Proofs.YtfapmcpmfeigbaaDoor.QTreeHolds
namespace Go.Proofs.YtfapmcpmfeigbaaDoor.Pure
theorem TreeHolds : QTreeHolds.turnspitlaw09_TreeHolds.Pure := QTreeHolds.tholds
end Go.Proofs.YtfapmcpmfeigbaaDoor.Pure
