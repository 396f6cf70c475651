/- What keys made by numbers are like; sorted rows turned on. Plain facts; no condition. Written by hand. -/
import Derived.Test.YtahnkldkbbkflaaKPure
namespace Go.Proofs.Ytahnkldkbbkflaa.KP
open Go Go.RowKit Go.Proofs Go.Proofs.Ytahnkldkbbkflaa Go.Proofs.Ytahnkldkbbkflaa.Ky Go.Proofs.Ytahnkldkbbkflaa.Srt Go.Proofs.Ytahnkldkbbkflaa.KC
set_option linter.unusedVariables false
def Evt {β : Type} (g : Nat → Option β) (r : β) : Prop := ∃ K, ∀ k, K ≤ k → g k = some r
theorem Evt.step {β : Type} {g h : Nat → Option β} {r : β} (he : Evt h r) (hs : ∀ k, g (k + 1) = h k) : Evt g r := by
  obtain ⟨K, hK⟩ := he
  refine ⟨K + 1, fun k hk => ?_⟩
  obtain ⟨k, rfl⟩ : ∃ m, k = m + 1 := ⟨k - 1, by omega⟩
  rw [hs]
  exact hK k (by omega)
theorem Evt.bind {α β : Type} {g : Nat → Option α} {h : Nat → α → Option β} {a : α} {r : β} (hg : Evt g a) (hh : Evt (fun k => h k a) r) : Evt (fun k => (g k).bind (h k)) r := by
  obtain ⟨K, hK⟩ := hg
  obtain ⟨K2, hK2⟩ := hh
  refine ⟨max K K2, fun k hk => ?_⟩
  show (g k).bind (h k) = some r
  rw [hK k (by omega), Option.bind_some]
  exact hK2 k (by omega)
theorem Evt.now {β : Type} (r : β) : Evt (fun _ => some r) r := ⟨0, fun _ _ => rfl⟩
theorem Evt.get {β : Type} {g : Nat → Option β} {r : β} (h : Evt g r) : ∃ k, g k = some r := by
  obtain ⟨K, hK⟩ := h
  exact ⟨K, hK K (Nat.le_refl _)⟩
structure MadeInv (mn : Int) (out : List K) : Prop where
  nd : out.Pairwise (fun x y => x.2 ≠ y.2)
  at_ : ∀ k ∈ out, (0 ≤ k.2 ∧ k.2 < 64) ∧ (0 ≤ k.1 ∧ k.1 ≤ 18446744073709551615) ∧ -300 ≤ lagf mn k.1 ∧ lagf mn k.1 ≤ 723
theorem made_step {mn x : Int} {out : List K} (hm : 0 ≤ mn ∧ mn ≤ 18446744073709551615) (hx : 0 ≤ x ∧ x ≤ 65535) (h : MadeInv mn out) : MadeInv mn (madeStep mn out x) ∧ (madeStep mn out x).length ≤ out.length + 1 := by
  unfold madeStep
  by_cases c : out.any (fun k => k.2 == x % 64) = true
  · rw [if_pos c]
    exact ⟨h, by omega⟩
  · rw [if_neg c]
    refine ⟨⟨?_, fun k hk => ?_⟩, by simp⟩
    · rw [List.pairwise_append]
      refine ⟨h.nd, List.pairwise_singleton _ _, fun a ha b hb => ?_⟩
      rw [List.mem_singleton.1 hb]
      intro e
      exact c (List.any_eq_true.2 ⟨a, ha, by simpa using e⟩)
    · rcases List.mem_append.1 hk with hk | hk
      · exact h.at_ k hk
      · rw [List.mem_singleton.1 hk]
        simp only [lagf, w64, wrap64]
        omega
theorem made_fold {mn : Int} (hm : 0 ≤ mn ∧ mn ≤ 18446744073709551615) : ∀ (l : List Int) (out : List K), (∀ x ∈ l, 0 ≤ x ∧ x ≤ 65535) → MadeInv mn out → MadeInv mn (l.foldl (madeStep mn) out) ∧ (l.foldl (madeStep mn) out).length ≤ out.length + l.length
  | [], out, _, h => ⟨h, by simp⟩
  | x :: t, out, hl, h => by
    obtain ⟨h1, h2⟩ := made_step hm (hl x List.mem_cons_self) h
    obtain ⟨h3, h4⟩ := made_fold hm t _ (fun y hy => hl y (List.mem_cons_of_mem _ hy)) h1
    exact ⟨h3, by simp only [List.foldl_cons, List.length_cons]; omega⟩
theorem made_inv {mn : Int} {l : List Int} (hm : 0 ≤ mn ∧ mn ≤ 18446744073709551615) (hl : ∀ x ∈ l, 0 ≤ x ∧ x ≤ 65535) : MadeInv mn (madeK mn l) ∧ (madeK mn l).length ≤ 40 := by
  rw [madeK_eq]
  obtain ⟨h1, h2⟩ := made_fold hm (l.take 40) [] (fun x hx => hl x (List.mem_of_mem_take hx)) ⟨List.Pairwise.nil, fun k hk => by cases hk⟩
  exact ⟨h1, by rw [List.length_take] at h2; simp at h2; omega⟩
theorem MadeInv.ok {mn : Int} {out : List K} (h : MadeInv mn out) (hl : out.length ≤ 40) : okR out = true := okR_of (by omega) fun x hx => ⟨(h.at_ x hx).2.1, by have := (h.at_ x hx).1; omega⟩
theorem MadeInv.perm {mn : Int} {a b : List K} (h : MadeInv mn a) (hp : a.Perm b) : MadeInv mn b := ⟨nd_perm hp h.nd, fun k hk => h.at_ k (hp.mem_iff.2 hk)⟩
/-- all times, and the least one, turned on by the same -/
theorem turn_all {mn m : Int} {l : List K} (hm : 0 ≤ mn ∧ mn ≤ 18446744073709551615) (hmm : 0 ≤ m ∧ m ≤ 18446744073709551615) (h : SS mn l) (hr : ∀ k ∈ l, 0 ≤ k.1 ∧ k.1 ≤ 18446744073709551615) :
    SS (IntKind.u64.wrap (mn + m)) (l.map fun k => (IntKind.u64.wrap (k.1 + m), k.2)) := by
  have hl : ∀ v : Int, 0 ≤ v ∧ v ≤ 18446744073709551615 → lagf (IntKind.u64.wrap (mn + m)) (IntKind.u64.wrap (v + m)) = lagf mn v := fun v hv => by
    simp only [lagf, w64, wrap64]
    omega
  refine ⟨List.pairwise_map.2 ?_, List.pairwise_map.2 h.nd⟩
  have h1 := h.pw
  rw [List.pairwise_iff_getElem] at h1 ⊢
  intro i j hi hj hij
  have := h1 i j hi hj hij
  rw [cv_lt] at this ⊢
  simp only
  rw [hl _ (hr _ (List.getElem_mem hi)), hl _ (hr _ (List.getElem_mem hj))]
  exact this
/-- a later least time, near it -/
theorem turn_min {mn d : Int} {l : List K} (hm : 0 ≤ mn ∧ mn ≤ 18446744073709551615) (hd : 0 ≤ d ∧ d < 4611686018427387904) (h : SS mn l) (hr : ∀ k ∈ l, (0 ≤ k.1 ∧ k.1 ≤ 18446744073709551615) ∧ -300 ≤ lagf mn k.1 ∧ lagf mn k.1 ≤ 723) :
    SS (IntKind.u64.wrap (mn + d)) l := by
  have hl : ∀ v : Int, (0 ≤ v ∧ v ≤ 18446744073709551615) ∧ -300 ≤ lagf mn v ∧ lagf mn v ≤ 723 → lagf (IntKind.u64.wrap (mn + d)) v = lagf mn v - d := fun v hv => by
    obtain ⟨hv, h1, h2⟩ := hv
    simp only [lagf, w64, wrap64] at *
    omega
  refine ⟨?_, h.nd⟩
  have h1 := h.pw
  rw [List.pairwise_iff_getElem] at h1 ⊢
  intro i j hi hj hij
  have := h1 i j hi hj hij
  rw [cv_lt] at this ⊢
  rw [hl _ (hr _ (List.getElem_mem hi)), hl _ (hr _ (List.getElem_mem hj))]
  omega
/-- the first one of a sorted row is the first one of all -/
theorem minTo_le {mn : Int} {l : List K} : ∀ (i : Nat), i < l.length → (minTo (cvf mn) l i ∈ l ∧ ∀ j, j ≤ i → ¬ cvf mn (gt l j) (minTo (cvf mn) l i) < 0)
  | 0, h => ⟨gt_mem l 0 h, fun j hj => by
    have e : j = 0 := by omega
    subst e
    exact lt_irrefl _⟩
  | i + 1, h => by
    obtain ⟨h1, h2⟩ := minTo_le (mn := mn) (l := l) i (by omega)
    rw [minTo]
    split
    · rename_i c
      refine ⟨gt_mem l (i + 1) h, fun j hj => ?_⟩
      by_cases e : j = i + 1
      · subst e; exact lt_irrefl _
      · intro hn
        exact h2 j (by omega) (lt_trans hn c)
    · rename_i c
      refine ⟨h1, fun j hj => ?_⟩
      by_cases e : j = i + 1
      · subst e; exact c
      · exact h2 j (by omega)
theorem first_sorted {mn : Int} {l s : List K} (hok : okR l = true) (hs : SS mn s) (hp : s.Perm l) (h0 : 0 < l.length) : firstK (cvf mn) l = gt s 0 := by
  unfold firstK
  rw [if_neg (by omega)]
  obtain ⟨h1, h2⟩ := minTo_le (mn := mn) (l := l) (l.length - 1) (by omega)
  have hs0 : 0 < s.length := by rw [hp.length_eq]; exact h0
  have hmem : gt s 0 ∈ l := hp.mem_iff.1 (gt_mem s 0 hs0)
  obtain ⟨j, hj, e⟩ := List.mem_iff_getElem.1 hmem
  refine cv_antisymm (mn := mn) (okR_at hok _ h1).1 (okR_at hok _ hmem).1 ?_ ?_
  · have hm := hp.mem_iff.2 h1
    obtain ⟨i, hi, e2⟩ := List.mem_iff_getElem.1 hm
    rw [← e2]
    by_cases ei : i = 0
    · subst ei; rw [gt_of s 0 hs0]; exact lt_irrefl _
    · rw [gt_of s 0 hs0]
      exact lt_asymm (List.pairwise_iff_getElem.1 hs.pw 0 i hs0 hi (by omega))
  · have := h2 j (by omega)
    rwa [gt_of l j hj, e] at this
end Go.Proofs.Ytahnkldkbbkflaa.KP
