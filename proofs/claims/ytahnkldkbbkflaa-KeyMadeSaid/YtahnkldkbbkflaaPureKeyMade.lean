/- Keys put one after another, in whatever order, stand sorted; dropped one after another, they go; no condition. -/
import Derived.Test.YtahnkldkbbkflaaQKeyMadex4
import Derived.Test.YtahnkldkbbkflaaKPure2
namespace Go.Proofs.Ytahnkldkbbkflaa.QKeyMade
open Go.RowKit Go.Proofs Go.Proofs.Ytahnkldkbbkflaa Go.Proofs.Ytahnkldkbbkflaa.Ky Go.Proofs.Ytahnkldkbbkflaa.Srt Go.Proofs.Ytahnkldkbbkflaa.KC Go.Proofs.Ytahnkldkbbkflaa.KP Go.Proofs.YtahnkldkbbkflaaW.PrintWords Go.Proofs.YtahnkldkbbkflaaW.PrintLast
set_option linter.unusedVariables false
section
def un (k : K) : S26 := ⟨k.1, k.2⟩
theorem pr_un (l : List K) : (l.map un).map (fun s => (s.f0, s.f1)) = l := by
  rw [List.map_map]
  exact List.map_id l
theorem rd_un (l : List K) (i : Nat) (h : i < l.length) : rd_T26 (l.map un) (i : Int) = un (gt l i) := by
  unfold rd_T26
  rw [Int.toNat_natCast, List.getD_eq_getElem?_getD, List.getElem?_map, List.getElem?_eq_getElem h, gt_of l i h]
  rfl
theorem Sort_un {mn : Int} {l : List K} (h : okR l = true) : key_Sort.f mn (l.map un) = some ((sortK mn l).map un) := by
  unfold key_Sort.f
  rw [pr_un, if_pos h]; rfl
theorem Sorted_un {mn : Int} {l : List K} (h : okR l = true) : key_Sorted.f mn (l.map un) = some (sortedK (cvf mn) l) := by
  unfold key_Sorted.f
  rw [pr_un, if_pos h]
theorem First_un {mn : Int} {l : List K} (h : okR l = true) : key_First.f mn (l.map un) = some ((firstK (cvf mn) l).1, (firstK (cvf mn) l).2, decide (0 < l.length)) := by
  unfold key_First.f
  rw [pr_un, if_pos h, List.length_map]
theorem Put_un {mn : Int} {l : List K} (k : K) (h : okR l = true) : key_Put.f mn (l.map un) k.1 k.2 = some ((putK (cvf mn) l k).1.map un, (putK (cvf mn) l k).2) := by
  unfold key_Put.f
  rw [pr_un, if_pos h]; rfl
theorem Drop_un {mn : Int} {l : List K} (id : Int) (h : okR l = true) : key_Drop.f mn (l.map un) id = some ((dropK (cvf mn) l id).1.map un, (dropK (cvf mn) l id).2) := by
  unfold key_Drop.f
  rw [pr_un, if_pos h]; rfl
theorem okU_of {l : List Int} (h : l.length * 2 ≤ 140737488351232) (k : ∀ x ∈ l, (Lit.int .u16 x).wf = true) : okU l = true := by
  unfold okU
  rw [Bool.and_eq_true]
  refine ⟨decide_eq_true (by omega), List.all_eq_true.2 fun x hx => decide_eq_true ?_⟩
  have := k x hx
  simp [Lit.wf, IntKind.min, IntKind.max, IntKind.signed, IntKind.bits] at this; omega
theorem Made_un {mn : Int} {l : List Int} (h : okU l = true) : turnspitlaw08_Made.f mn l = some ((madeK mn l).map un) := by
  unfold turnspitlaw08_Made.f
  rw [if_pos h]; rfl

theorem wfu {n : Int} (h : (Lit.int .u64 n).wf = true) : 0 ≤ n ∧ n ≤ 18446744073709551615 := by
  simp [Lit.wf, IntKind.min, IntKind.max, IntKind.signed, IntKind.bits] at h; omega

theorem wfh {n : Int} (h : (Lit.int .u16 n).wf = true) : 0 ≤ n ∧ n ≤ 65535 := by
  simp [Lit.wf, IntKind.min, IntKind.max, IntKind.signed, IntKind.bits] at h; omega
theorem wfi {n : Int} (h : (Lit.int .i64 n).wf = true) : -9223372036854775808 ≤ n ∧ n ≤ 9223372036854775807 := by
  simp [Lit.wf, IntKind.min, IntKind.max, IntKind.signed, IntKind.bits] at h; omega
end

theorem ins_weak {mn : Int} {k : K} : ∀ {l : List K}, l.Pairwise (fun x y => ¬ cvf mn y x < 0) → (ins mn l k).Pairwise (fun x y => ¬ cvf mn y x < 0)
  | [], _ => by rw [ins_nil]; exact List.pairwise_singleton _ _
  | x :: t, h => by
    have h1 := List.pairwise_cons.1 h
    rw [ins_cons]
    split
    · rename_i c
      refine List.pairwise_cons.2 ⟨fun y hy => ?_, h⟩
      rcases List.mem_cons.1 hy with rfl | hy
      · exact lt_asymm c
      · have := h1.1 y hy
        rw [cv_lt] at *
        omega
    · rename_i c
      refine List.pairwise_cons.2 ⟨fun y hy => ?_, ins_weak h1.2⟩
      rcases List.mem_cons.1 ((ins_perm mn k t).mem_iff.1 hy) with rfl | hy
      · exact c
      · exact h1.1 y hy
theorem fold_ins {mn : Int} : ∀ (l a : List K), a.Pairwise (fun x y => ¬ cvf mn y x < 0) → (l.foldl (ins mn) a).Pairwise (fun x y => ¬ cvf mn y x < 0) ∧ (l.foldl (ins mn) a).Perm (a ++ l)
  | [], a, h => ⟨h, by rw [List.append_nil]; exact List.Perm.refl _⟩
  | x :: t, a, h => by
    obtain ⟨h1, h2⟩ := fold_ins t (ins mn a x) (ins_weak h)
    refine ⟨h1, h2.trans ?_⟩
    exact ((ins_perm mn x a).append_right t).trans (List.perm_middle.symm)

theorem inv_sub {mn : Int} {a b : List K} (h : MadeInv mn b) (k : a.Sublist b) : MadeInv mn a := ⟨h.nd.sublist k, fun x hx => h.at_ x (k.subset hx)⟩
theorem fold_ok {mn : Int} {o : List K} (h : MadeInv mn o) (i : Nat) : SS mn ((o.take i).foldl (ins mn) []) ∧ MadeInv mn ((o.take i).foldl (ins mn) []) ∧ ((o.take i).foldl (ins mn) []).Perm (o.take i) := by
  obtain ⟨h1, h2⟩ := fold_ins (mn := mn) (o.take i) [] List.Pairwise.nil
  rw [List.nil_append] at h2
  have hm := (inv_sub h (List.take_sublist i o)).perm h2.symm
  exact ⟨⟨pw_strict h1 hm.nd, hm.nd⟩, hm, h2⟩
theorem l2_step {mn : Int} {l : List K} (hI : MadeInv mn l) (hl : l.length ≤ 40) : ∀ (d i : Nat) (acc : List K), d + i = l.length → SS mn acc → acc.Perm (l.drop i) → Evt (fun k => turnspitlaw08_KeyMade.l2 k mn true (l.map un) (acc.map un) (i : Int)) true
  | 0, i, acc, hi, hS, hP => by
    refine Evt.step (Evt.now true) fun k => ?_
    rw [turnspitlaw08_KeyMade.l2, List.length_map, if_neg (by omega)]
  | d + 1, i, acc, hi, hS, hP => by
    have hlt : i < l.length := by omega
    have hd : l.drop i = gt l i :: l.drop (i + 1) := by rw [gt_of l i hlt, List.getElem_cons_drop]
    have hA : MadeInv mn acc := (inv_sub hI (List.drop_sublist i l)).perm hP.symm
    have hlen : acc.length = l.length - i := by rw [hP.length_eq, List.length_drop]
    have hok := hA.ok (by omega)
    have hmem : ∃ x ∈ acc, x.2 = (gt l i).2 := ⟨gt l i, hP.mem_iff.2 (by rw [hd]; exact List.mem_cons_self), rfl⟩
    have hdl := del_len hmem
    have hP2 : (del acc (gt l i).2).Perm (l.drop (i + 1)) := by
      rw [del_filter hS.nd]
      have h1 := hP.filter (fun x => x.2 != (gt l i).2)
      rw [hd, List.filter_cons, if_neg (by simp)] at h1
      have hn : (l.drop i).Pairwise (fun x y => x.2 ≠ y.2) := hI.nd.sublist (List.drop_sublist i l)
      rw [hd] at hn
      have hn2 := (List.pairwise_cons.1 hn).1
      rw [show (l.drop (i + 1)).filter (fun x => x.2 != (gt l i).2) = l.drop (i + 1) from List.filter_eq_self.2 (fun y hy => by have := hn2 y hy; simpa using this.symm)] at h1
      exact h1
    refine Evt.step (l2_step hI hl d (i + 1) (del acc (gt l i).2) (by omega) (del_SS hS) hP2) fun k => ?_
    rw [turnspitlaw08_KeyMade.l2, List.length_map, if_pos (by omega), if_pos (by omega), rd_un l i hlt, show (un (gt l i)).f1 = (gt l i).2 from rfl, Drop_un _ hok, dropK_yes hS hmem, Option.bind_some, if_pos rfl]
    rw [if_pos (by rw [List.length_map, List.length_map, hdl]; unfold wrap64; omega), show wrap64 ((i : Int) + 1) = ((i + 1 : Nat) : Int) from by unfold wrap64; omega]
theorem l1_step {mn : Int} {l s : List K} (hs : s.length ≤ 40) (h2 : Evt (fun k => turnspitlaw08_KeyMade.l2 k mn true (l.map un) (s.map un) 0) true) : ∀ (d i : Nat), d + i = s.length → Evt (fun k => turnspitlaw08_KeyMade.l1 k mn true (l.map un) (s.map un) (s.map un) (i : Int)) true
  | 0, i, hi => by
    refine Evt.step h2 fun k => ?_
    rw [turnspitlaw08_KeyMade.l1, List.length_map, if_neg (by omega)]
  | d + 1, i, hi => by
    refine Evt.step (l1_step hs h2 d (i + 1) (by omega)) fun k => ?_
    rw [turnspitlaw08_KeyMade.l1, List.length_map, if_pos (by omega), if_pos (by omega), if_pos (by omega), if_neg (by simp), show wrap64 ((i : Int) + 1) = ((i + 1 : Nat) : Int) from by unfold wrap64; omega]
theorem l0_step {mn : Int} {l o : List K} (back : Bool) (hI : MadeInv mn l) (hl : l.length ≤ 40) (ho : o = if back = true then l.reverse else l) : ∀ (d i : Nat), d + i = l.length →
    Evt (fun k => turnspitlaw08_KeyMade.l0 k mn back true (l.map un) ((sortK mn l).map un) (((o.take i).foldl (ins mn) []).map un) (i : Int)) true
  | 0, i, hi => by
    have hop : o.Perm l := by rw [ho]; cases back; exact List.Perm.refl _; exact List.reverse_perm l
    have hIo := hI.perm hop.symm
    have hol := hop.length_eq
    have hS := sortK_SS (mn := mn) hI.nd
    have hP := sortK_perm mn l
    have hok := hI.ok hl
    have hsl := hP.length_eq
    have hok2 := (hI.perm hP.symm).ok (by omega)
    obtain ⟨f1, f2, f3⟩ := fold_ok hIo i
    rw [List.take_of_length_le (by omega)] at f1 f2 f3 ⊢
    have e : o.foldl (ins mn) [] = sortK mn l := f1.eq_sort hok (f3.trans hop)
    rw [e]
    have g2 := l2_step hI hl l.length 0 (sortK mn l) (by omega) hS (by rw [List.drop_zero]; exact hP)
    have g1 := l1_step (l := l) (by omega) g2 (sortK mn l).length 0 (by omega)
    have gj : Evt (fun k => turnspitlaw08_KeyMade.j1 k mn true (l.map un) ((sortK mn l).map un) ((sortK mn l).map un) false) true := by
      refine Evt.step g1 fun k => ?_
      rw [turnspitlaw08_KeyMade.j1, if_neg (by simp)]
      rfl
    refine Evt.step gj fun k => ?_
    rw [turnspitlaw08_KeyMade.l0, List.length_map, if_neg (by omega), First_un hok, Option.bind_some, List.length_map, if_pos (by omega), if_pos (by omega), if_neg (by simp), Sorted_un hok2, sortedK_iff.2 hS]
    by_cases c : 0 < l.length
    · simp only
      rw [if_pos (decide_eq_true c), if_pos (by omega), show (0 : Int) = ((0 : Nat) : Int) from rfl, rd_un _ 0 (by omega), first_sorted hok hS hP c, if_neg (by simp [un])]
      rfl
    · simp only
      rw [if_neg (by simpa using c)]
      rfl
  | d + 1, i, hi => by
    have hlt : i < l.length := by omega
    have hop : o.Perm l := by rw [ho]; cases back; exact List.Perm.refl _; exact List.reverse_perm l
    have hIo := hI.perm hop.symm
    have hol := hop.length_eq
    obtain ⟨f1, f2, f3⟩ := fold_ok hIo i
    have hlen := f3.length_eq
    rw [List.length_take] at hlen
    have hok := f2.ok (by omega)
    have hno : ∀ x ∈ (o.take i).foldl (ins mn) [], x.2 ≠ (gt o i).2 := fun x hx => by
      have h1 := hIo.nd
      rw [← List.take_append_drop i o, List.pairwise_append] at h1
      refine h1.2.2 x (f3.mem_iff.1 hx) (gt o i) ?_
      rw [gt_of o i (by omega), ← List.getElem_cons_drop (by omega : i < o.length)]
      exact List.mem_cons_self
    have hstep : (o.take (i + 1)).foldl (ins mn) [] = ins mn ((o.take i).foldl (ins mn) []) (gt o i) := by
      rw [List.take_succ_eq_append_getElem (by omega : i < o.length), List.foldl_append, gt_of o i (by omega)]
      rfl
    have h := l0_step back hI hl ho d (i + 1) (by omega)
    rw [hstep] at h
    refine Evt.step h fun k => ?_
    rw [turnspitlaw08_KeyMade.l0, List.length_map, if_pos (by omega), if_pos (by omega)]
    have hw : wrap64 ((i : Int) + 1) = ((i + 1 : Nat) : Int) := by unfold wrap64; omega
    cases back with
    | true =>
      have hj : wrap64 (wrap64 ((l.length : Int) - 1) - (i : Int)) = ((l.length - 1 - i : Nat) : Int) := by unfold wrap64; omega
      have hg : gt l (l.length - 1 - i) = gt o i := by
        rw [gt_of l _ (by omega), gt_of o i (by omega)]
        simp only [ho, if_true, List.getElem_reverse]
      rw [if_pos rfl, hj, if_pos (by omega), if_pos (by omega), rd_un l _ (by omega), hg, show key_Put.f mn _ (un (gt o i)).f0 (un (gt o i)).f1 = _ from Put_un (gt o i) hok, putK_new f1 hno, Option.bind_some, if_pos rfl, hw]
    | false =>
      have hg : gt l i = gt o i := by rw [ho, if_neg (by simp)]
      rw [if_neg (by simp), rd_un l i hlt, hg, show key_Put.f mn _ (un (gt o i)).f0 (un (gt o i)).f1 = _ from Put_un (gt o i) hok, putK_new f1 hno, Option.bind_some, if_pos rfl, hw]
theorem made : turnspitlaw08_KeyMade.Pure := by
  intro a0 l1 a2 w0 _ hl hw
  have g0 := wfu w0
  obtain ⟨hI, hlen⟩ := made_inv (l := l1) g0 (fun x hx => wfh (hw x hx))
  have hok := hI.ok hlen
  obtain ⟨k, hk⟩ := (l0_step (o := if a2 = true then (madeK a0 l1).reverse else madeK a0 l1) a2 hI hlen rfl (madeK a0 l1).length 0 (by omega)).get
  refine ⟨k, ?_⟩
  rw [turnspitlaw08_KeyMade.f, turnspitlaw08_awake.f, Option.bind_some, if_pos rfl, Made_un (okU_of hl hw), Option.bind_some, Sort_un hok, Option.bind_some]
  exact hk
end Go.Proofs.Ytahnkldkbbkflaa.QKeyMade
namespace Go.Proofs.Ytahnkldkbbkflaa.Pure
theorem KeyMade : QKeyMade.turnspitlaw08_KeyMade.Pure := QKeyMade.made
end Go.Proofs.Ytahnkldkbbkflaa.Pure
