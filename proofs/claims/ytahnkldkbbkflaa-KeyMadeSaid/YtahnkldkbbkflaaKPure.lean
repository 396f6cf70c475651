/- Sorted rows of keys: what putting, dropping, sorting them comes to. Plain facts; no condition. Written by hand. -/
import Derived.Test.YtahnkldkbbkflaaKLib10
namespace Go.Proofs.Ytahnkldkbbkflaa.KP
open Go Go.RowKit Go.Proofs Go.Proofs.Ytahnkldkbbkflaa Go.Proofs.Ytahnkldkbbkflaa.Ky Go.Proofs.Ytahnkldkbbkflaa.Srt Go.Proofs.Ytahnkldkbbkflaa.KC
set_option linter.unusedVariables false
theorem w64 (x : Int) : IntKind.u64.wrap x = x % 18446744073709551616 := by unfold IntKind.wrap; simp [IntKind.signed, IntKind.bits]
theorem cv_lt {mn : Int} {x y : K} : cvf mn x y < 0 ↔ lagf mn x.1 < lagf mn y.1 ∨ lagf mn x.1 = lagf mn y.1 ∧ x.2 < y.2 := by
  unfold cvf
  repeat' split
  all_goals omega
theorem lt_trans {mn : Int} {x y z : K} (h : cvf mn x y < 0) (k : cvf mn y z < 0) : cvf mn x z < 0 := by
  rw [cv_lt] at *
  omega
theorem lt_asymm {mn : Int} {x y : K} (h : cvf mn x y < 0) : ¬ cvf mn y x < 0 := by
  rw [cv_lt] at *
  omega
theorem lt_irrefl {mn : Int} (x : K) : ¬ cvf mn x x < 0 := by
  rw [cv_lt]
  omega
/-- in order, each number once -/
structure SS (mn : Int) (l : List K) : Prop where
  pw : l.Pairwise (fun x y => cvf mn x y < 0)
  nd : l.Pairwise (fun x y => x.2 ≠ y.2)
theorem sortedK_iff {mn : Int} {l : List K} : sortedK (cvf mn) l = true ↔ SS mn l := by
  unfold sortedK
  rw [decide_eq_true_iff]
  constructor
  · intro h
    have hlt : ∀ j i, i < j → j < l.length → cvf mn (gt l i) (gt l j) < 0 := by
      intro j
      induction j with
      | zero => intro i hi; omega
      | succ j ih =>
        intro i hi hj
        have h1 := (h (j + 1) hj).1
        rcases h1 with h1 | h1
        · omega
        · rw [show j + 1 - 1 = j by omega] at h1
          by_cases e : i = j
          · subst e; exact h1
          · exact lt_trans (ih i (by omega) (by omega)) h1
    refine ⟨List.pairwise_iff_getElem.2 fun i j hi hj hij => ?_, List.pairwise_iff_getElem.2 fun i j hi hj hij => ?_⟩
    · have := hlt j i hij hj
      rwa [gt_of l i hi, gt_of l j hj] at this
    · have := (h j hj).2 i hij
      rwa [gt_of l i hi, gt_of l j hj] at this
  · intro h i hi
    refine ⟨?_, fun j hj => ?_⟩
    · by_cases e : i = 0
      · exact Or.inl e
      · refine Or.inr ?_
        have := List.pairwise_iff_getElem.1 h.pw (i - 1) i (by omega) hi (by omega)
        rwa [gt_of l (i - 1) (by omega), gt_of l i hi]
    · have := List.pairwise_iff_getElem.1 h.nd j i (by omega) hi hj
      rwa [gt_of l j (by omega), gt_of l i hi]
theorem pw_strict {mn : Int} : ∀ {l : List K}, l.Pairwise (fun x y => ¬ cvf mn y x < 0) → l.Pairwise (fun x y => x.2 ≠ y.2) → l.Pairwise (fun x y => cvf mn x y < 0)
  | [], _, _ => .nil
  | x :: t, h, k => by
    rw [List.pairwise_cons] at h k ⊢
    refine ⟨fun y hy => ?_, pw_strict h.2 k.2⟩
    have h1 := h.1 y hy
    have h2 := k.1 y hy
    rw [cv_lt] at *
    omega
theorem pw_weak {mn : Int} {l : List K} (h : l.Pairwise (fun x y => cvf mn x y < 0)) : l.Pairwise (fun x y => ¬ cvf mn y x < 0) := h.imp fun h => lt_asymm h
theorem nd_perm {a b : List K} (h : a.Perm b) (k : a.Pairwise (fun x y => x.2 ≠ y.2)) : b.Pairwise (fun x y => x.2 ≠ y.2) := (h.pairwise_iff (fun h => fun e => h e.symm)).1 k
theorem sortK_SS {mn : Int} {l : List K} (h : l.Pairwise (fun x y => x.2 ≠ y.2)) : SS mn (sortK mn l) :=
  ⟨pw_strict (sortK_pw mn l) (nd_perm (sortK_perm mn l).symm h), nd_perm (sortK_perm mn l).symm h⟩
theorem okR_perm {a b : List K} (h : a.Perm b) (k : okR a = true) : okR b = true := by
  unfold okR at *
  rw [Bool.and_eq_true] at *
  refine ⟨by rw [← h.length_eq]; exact k.1, List.all_eq_true.2 fun x hx => List.all_eq_true.1 k.2 x (h.mem_iff.2 hx)⟩
theorem okR_of {l : List K} (h : l.length ≤ 1000000) (k : ∀ x ∈ l, (0 ≤ x.1 ∧ x.1 ≤ 18446744073709551615) ∧ (-9223372036854775808 ≤ x.2 ∧ x.2 ≤ 9223372036854775807)) : okR l = true := by
  unfold okR
  rw [Bool.and_eq_true]
  refine ⟨decide_eq_true h, List.all_eq_true.2 fun x hx => ?_⟩
  rw [Bool.and_eq_true]
  exact ⟨decide_eq_true (k x hx).1, decide_eq_true (k x hx).2⟩
/-- a sorted row is what sorting makes of it -/
theorem SS.eq_sort {mn : Int} {l k : List K} (h : SS mn l) (hok : okR k = true) (hp : l.Perm k) : l = sortK mn k :=
  pw_unique (fun x hx => (okR_at hok x (hp.mem_iff.1 hx)).1) (pw_weak h.pw) (sortK_pw mn k) (hp.trans (sortK_perm mn k).symm)
/-- a key put ahead of the first one that is greater -/
def ins (mn : Int) (l : List K) (k : K) : List K := l.take (l.findIdx (fun x => decide (cvf mn k x < 0))) ++ k :: l.drop (l.findIdx (fun x => decide (cvf mn k x < 0)))
theorem ins_cons (mn : Int) (x : K) (t : List K) (k : K) : ins mn (x :: t) k = if cvf mn k x < 0 then k :: x :: t else x :: ins mn t k := by
  unfold ins
  by_cases h : cvf mn k x < 0
  · rw [if_pos h, List.findIdx_cons]
    simp [h]
  · rw [if_neg h, List.findIdx_cons]
    simp [h]
theorem ins_nil (mn : Int) (k : K) : ins mn [] k = [k] := rfl
theorem ins_perm (mn : Int) (k : K) : ∀ l : List K, (ins mn l k).Perm (k :: l)
  | [] => List.Perm.refl _
  | x :: t => by
    rw [ins_cons]
    split
    · exact List.Perm.refl _
    · exact ((ins_perm mn k t).cons x).trans (List.Perm.swap k x t)
theorem ins_SS {mn : Int} {k : K} : ∀ {l : List K}, SS mn l → (∀ x ∈ l, x.2 ≠ k.2) → SS mn (ins mn l k)
  | [], _, _ => by rw [ins_nil]; exact ⟨List.pairwise_singleton _ _, List.pairwise_singleton _ _⟩
  | x :: t, h, hk => by
    have h1 := List.pairwise_cons.1 h.pw
    have h2 := List.pairwise_cons.1 h.nd
    rw [ins_cons]
    split
    · rename_i c
      refine ⟨List.pairwise_cons.2 ⟨fun y hy => ?_, h.pw⟩, List.pairwise_cons.2 ⟨fun y hy e => hk y hy e.symm, h.nd⟩⟩
      rcases List.mem_cons.1 hy with rfl | hy
      · exact c
      · exact lt_trans c (h1.1 y hy)
    · rename_i c
      have ih := ins_SS (mn := mn) (k := k) (l := t) ⟨h1.2, h2.2⟩ (fun y hy => hk y (List.mem_cons_of_mem _ hy))
      have hx := hk x (List.mem_cons_self)
      refine ⟨List.pairwise_cons.2 ⟨fun y hy => ?_, ih.pw⟩, List.pairwise_cons.2 ⟨fun y hy => ?_, ih.nd⟩⟩
      · rcases List.mem_cons.1 ((ins_perm mn k t).mem_iff.1 hy) with rfl | hy
        · rw [cv_lt] at *
          omega
        · exact h1.1 y hy
      · rcases List.mem_cons.1 ((ins_perm mn k t).mem_iff.1 hy) with rfl | hy
        · exact hx
        · exact h2.1 y hy
theorem idx_no {l : List K} {id : Int} (h : ∀ x ∈ l, x.2 ≠ id) : idxI (fun x => x.2 == id) l = -1 :=
  idxI_no fun t ht => beq_eq_false_iff_ne.2 (h _ (gt_mem l t ht))
theorem idx_yes {l : List K} {id : Int} (h : ∃ x ∈ l, x.2 = id) : 0 ≤ idxI (fun x => x.2 == id) l ∧ idxI (fun x => x.2 == id) l = (l.findIdx (fun x => x.2 == id) : Int) ∧ l.findIdx (fun x => x.2 == id) < l.length := by
  obtain ⟨x, hx, e⟩ := h
  have hlt : l.findIdx (fun x => x.2 == id) < l.length := List.findIdx_lt_length_of_exists ⟨x, hx, by simp [e]⟩
  unfold idxI
  rw [if_pos hlt]
  exact ⟨by omega, rfl, hlt⟩
theorem putK_new {mn : Int} {l : List K} {k : K} (h : SS mn l) (hk : ∀ x ∈ l, x.2 ≠ k.2) : putK (cvf mn) l k = (ins mn l k, 0) := by
  unfold putK
  rw [sortedK_iff.2 h, if_neg (by simp), idx_no hk, if_neg (by omega)]
  rfl
theorem putK_old {mn : Int} {l : List K} {k : K} (h : SS mn l) (hk : ∃ x ∈ l, x.2 = k.2) : putK (cvf mn) l k = ([], 1) := by
  unfold putK
  rw [sortedK_iff.2 h, if_neg (by simp), if_pos (idx_yes hk).1]
theorem dropK_no {mn : Int} {l : List K} {id : Int} (h : SS mn l) (hk : ∀ x ∈ l, x.2 ≠ id) : dropK (cvf mn) l id = ([], 8) := by
  unfold dropK
  rw [sortedK_iff.2 h, if_neg (by simp), idx_no hk, if_pos (by omega)]
/-- a row without the key of a number -/
def del (l : List K) (id : Int) : List K := l.take (l.findIdx (fun x => x.2 == id)) ++ l.drop (l.findIdx (fun x => x.2 == id) + 1)
theorem dropK_yes {mn : Int} {l : List K} {id : Int} (h : SS mn l) (hk : ∃ x ∈ l, x.2 = id) : dropK (cvf mn) l id = (del l id, 0) := by
  obtain ⟨h1, h2, h3⟩ := idx_yes hk
  unfold dropK
  rw [sortedK_iff.2 h, if_neg (by simp), if_neg (by omega), h2, Int.toNat_natCast]
  rfl
theorem del_cons (x : K) (t : List K) (id : Int) : del (x :: t) id = if x.2 = id then t else x :: del t id := by
  unfold del
  by_cases h : x.2 = id
  · rw [if_pos h, List.findIdx_cons]
    simp [h]
  · rw [if_neg h, List.findIdx_cons]
    have hb : (x.2 == id) = false := beq_eq_false_iff_ne.2 h
    simp [hb]
theorem del_filter : ∀ {l : List K} {id : Int}, l.Pairwise (fun x y => x.2 ≠ y.2) → del l id = l.filter (fun x => x.2 != id)
  | [], id, _ => rfl
  | x :: t, id, h => by
    obtain ⟨h1, h2⟩ := List.pairwise_cons.1 h
    rw [del_cons, List.filter_cons]
    by_cases e : x.2 = id
    · rw [if_pos e, if_neg (by simp [e])]
      symm
      rw [List.filter_eq_self]
      intro y hy
      have := h1 y hy
      rw [e] at this
      simpa using this.symm
    · rw [if_neg e, if_pos (by simpa using e), del_filter h2]
theorem SS.sub {mn : Int} {a b : List K} (h : SS mn b) (k : a.Sublist b) : SS mn a := ⟨h.pw.sublist k, h.nd.sublist k⟩
theorem del_SS {mn : Int} {l : List K} {id : Int} (h : SS mn l) : SS mn (del l id) := by
  rw [del_filter h.nd]
  exact h.sub List.filter_sublist
theorem del_len {l : List K} {id : Int} (hk : ∃ x ∈ l, x.2 = id) : (del l id).length = l.length - 1 := by
  obtain ⟨_, _, h3⟩ := idx_yes hk
  unfold del
  rw [List.length_append, List.length_take, List.length_drop]
  omega
theorem del_ins {mn : Int} {k : K} : ∀ {l : List K}, (∀ x ∈ l, x.2 ≠ k.2) → del (ins mn l k) k.2 = l
  | [], _ => by rw [ins_nil, del_cons, if_pos rfl]
  | x :: t, h => by
    rw [ins_cons]
    split
    · rw [del_cons, if_pos rfl]
    · rw [del_cons, if_neg (h x List.mem_cons_self), del_ins (fun y hy => h y (List.mem_cons_of_mem _ hy))]
end Go.Proofs.Ytahnkldkbbkflaa.KP
