/- Who is stuck stays so, whoever is picked: it has, and wants, the same still, and does no section; no condition. -/
import Derived.Test.YtiidjnnagbfokaaQLocksDeadx1
import Derived.Test.YtiidjnnagbfokaaQLocksDeadx3
import Derived.Test.YtiidjnnagbfokaaQLocksDeadx4
import Derived.Test.YtiidjnnagbfokaaQLocksDeadx5
import Derived.Test.YtiidjnnagbfokaaTheory
namespace Go.Proofs.Ytiidjnnagbfokaa.QLocksDead
open Go Go.RowKit Go.Proofs.Ytiidjnnagbfokaa.Lk Go.Proofs.YtiidjnnagbfokaaW.PrintWords Go.Proofs.YtiidjnnagbfokaaW.PrintLast Go.Proofs.YtiidjnnagbfokaaW.PrintMore
set_option linter.unusedVariables false
/-! ### what is alike in the laws over jobs -/
theorem u16_of {l : List Int} (h : ∀ x ∈ l, (Lit.int .u16 x).wf = true) : u16s l = true := by
  refine List.all_eq_true.2 fun x hx => decide_eq_true ?_
  have := h x hx
  simp [Lit.wf, IntKind.min, IntKind.max, IntKind.signed, IntKind.bits] at this
  omega
theorem many_rng (l : List Int) : 2 ≤ manyP l ∧ manyP l ≤ 5 := by
  unfold manyP
  split <;> omega
theorem jobP_length (m : Int) (rows : List (List S55)) (x : Int) : (jobP m rows x).length = rows.length := by unfold jobP; rw [List.length_set]
theorem jobs_length (l : List Int) : (jobsP l).length = (manyP l).toNat := by
  unfold jobsP
  have : ∀ (xs : List Int) (rows : List (List S55)), (xs.foldl (jobP (manyP l)) rows).length = rows.length := by
    intro xs
    induction xs with
    | nil => intro rows; rfl
    | cons x t ih => intro rows; rw [List.foldl_cons, ih, jobP_length]
  rw [this, List.length_replicate]
/-- Sections of two of six locks; at most nineteen -/
theorem jobs_inv (m : Int) : ∀ (xs : List Int), (∀ x ∈ xs, 0 ≤ x) → ∀ (rows : List (List S55)), (∀ row ∈ rows, ∀ s ∈ row, 0 ≤ s.f0 ∧ s.f0 < 6 ∧ 0 ≤ s.f1 ∧ s.f1 < 6) →
    (∀ row ∈ xs.foldl (jobP m) rows, ∀ s ∈ row, 0 ≤ s.f0 ∧ s.f0 < 6 ∧ 0 ≤ s.f1 ∧ s.f1 < 6) ∧ (xs.foldl (jobP m) rows).flatten.length ≤ rows.flatten.length + xs.length
  | [], _, rows, h => ⟨h, Nat.le_refl _⟩
  | x :: t, hx, rows, h => by
    have hx0 := hx x List.mem_cons_self
    have hsec : 0 ≤ (secP x).f0 ∧ (secP x).f0 < 6 ∧ 0 ≤ (secP x).f1 ∧ (secP x).f1 < 6 := by
      unfold secP
      show 0 ≤ x % 6 ∧ x % 6 < 6 ∧ 0 ≤ x / 6 % 6 ∧ x / 6 % 6 < 6
      omega
    have hget : ∀ k, ∀ s ∈ rows.getD k [], 0 ≤ s.f0 ∧ s.f0 < 6 ∧ 0 ≤ s.f1 ∧ s.f1 < 6 := by
      intro k s hs
      by_cases hk : k < rows.length
      · rw [List.getD_eq_getElem?_getD, List.getElem?_eq_getElem hk] at hs
        exact h _ (List.getElem_mem hk) s hs
      · rw [List.getD_eq_getElem?_getD, List.getElem?_eq_none (by omega)] at hs
        cases hs
    have hfl : ∀ (k : Nat) (rows : List (List S55)), (rows.set k (rows.getD k [] ++ [secP x])).flatten.length ≤ rows.flatten.length + 1 := by
      intro k rows
      induction rows generalizing k with
      | nil => simp
      | cons r t ih =>
        cases k with
        | zero => simp [List.getD_eq_getElem?_getD]; omega
        | succ k =>
          have := ih k
          simp only [List.getD_eq_getElem?_getD, List.set_cons_succ, List.getElem?_cons_succ, List.flatten_cons, List.length_append] at this ⊢
          omega
    obtain ⟨h1, h2⟩ := jobs_inv m t (fun y hy => hx y (List.mem_cons_of_mem _ hy)) (jobP m rows x) (fun row hr s hs => by
      unfold jobP at hr
      rcases List.mem_or_eq_of_mem_set hr with hr | rfl
      · exact h row hr s hs
      · rcases List.mem_append.1 hs with hs | hs
        · exact hget _ s hs
        · rw [List.mem_singleton.1 hs]; exact hsec)
    refine ⟨h1, ?_⟩
    have := hfl (x / 36 % m).toNat rows
    have h3 : (jobP m rows x).flatten.length ≤ rows.flatten.length + 1 := this
    rw [List.foldl_cons]
    simp only [List.length_cons]
    omega
theorem jobs_all (l : List Int) (h : ∀ x ∈ l, (Lit.int .u16 x).wf = true) : (∀ row ∈ jobsP l, ∀ s ∈ row, 0 ≤ s.f0 ∧ s.f0 < 6 ∧ 0 ≤ s.f1 ∧ s.f1 < 6) ∧ (jobsP l).flatten.length ≤ 19 := by
  have hx : ∀ x ∈ (l.drop 1).take 19, 0 ≤ x := fun x hx => by
    have := List.all_eq_true.1 (u16_of h) x (List.mem_of_mem_drop (List.mem_of_mem_take hx))
    have := of_decide_eq_true this
    omega
  obtain ⟨h1, h2⟩ := jobs_inv (manyP l) ((l.drop 1).take 19) hx (List.replicate (manyP l).toNat []) (fun row hr s hs => by rw [List.eq_of_mem_replicate hr] at hs; cases hs)
  refine ⟨h1, Nat.le_trans h2 ?_⟩
  have : ∀ n, (List.replicate n ([] : List S55)).flatten.length = 0 := fun n => by simp
  rw [this]
  simp
  omega
theorem jobs_six (l : List Int) (h : ∀ x ∈ l, (Lit.int .u16 x).wf = true) : Six (prs (jobsP l)) := by
  intro k p hp
  by_cases hk : k < (jobsP l).length
  · rw [prs, List.getD_eq_getElem?_getD, List.getElem?_map, List.getElem?_eq_getElem hk] at hp
    obtain ⟨s, h1, rfl⟩ := List.mem_map.1 hp
    have := (jobs_all l h).1 _ (List.getElem_mem hk) s h1
    exact ⟨this.1, this.2.1, this.2.2.1, this.2.2.2⟩
  · rw [prs, List.getD_eq_getElem?_getD, List.getElem?_map, List.getElem?_eq_none (by omega)] at hp
    cases hp
theorem prs_jobs_length (l : List Int) : (prs (jobsP l)).length = (manyP l).toNat := by rw [prs_length, jobs_length]
def ws52 (L : List (List Int × Int)) : List S52 := L.map (fun x => (⟨x.1, x.2⟩ : S52))
theorem ws52_pr (L : List (List Int × Int)) : (ws52 L).map pr52 = L := by
  unfold ws52
  rw [List.map_map]
  exact List.map_id'' (fun _ => rfl) L
theorem play_f (l : List Int) (h : ∀ x ∈ l, (Lit.int .u16 x).wf = true) (ord : Bool) (ps : List Int) (hp : ps.length ≤ 20000) :
    locks_Play.f 6 (jobsP l) ord ps = some ((playsP 6 (prs (jobsP l)) ord ps).by_, ws52 (outP ord (prs (jobsP l)) (playsP 6 (prs (jobsP l)) ord ps).all), (playsP 6 (prs (jobsP l)) ord ps).done, 0) := by
  unfold locks_Play.f
  have hm := many_rng l
  rw [if_pos ⟨by rw [jobs_length]; omega, by have := (jobs_all l h).2; unfold total; omega⟩, playP_six (jobs_six l h) (by rw [prs_jobs_length]; omega) ps hp]
  rfl
theorem picks_l0 (m : Int) (hm : 2 ≤ m) (l : List Int) (hl : l.length ≤ 140737488351232) : ∀ (d i : Nat) (acc : List Int), d + i = 300 → acc.length ≤ i → ∃ r, Evt (fun k => turnspitlaw11_Picks.l0 k m l acc (i : Int)) r ∧ r.length ≤ 300
  | 0, i, acc, hi, ha => by
    obtain rfl : i = 300 := by omega
    refine ⟨acc, Evt.step (Evt.now acc) fun k => ?_, ha⟩
    rw [turnspitlaw11_Picks.l0]
    by_cases c : ((300 : Nat) : Int) < (l.length : Int)
    · rw [if_pos c, if_neg (by omega)]
    · rw [if_neg c]
  | d + 1, i, acc, hi, ha => by
    by_cases c : (i : Int) < (l.length : Int)
    · have hw : wrap64 ((i : Int) + 1) = ((i + 1 : Nat) : Int) := by unfold wrap64; omega
      obtain ⟨r, h1, h2⟩ := picks_l0 m hm l hl d (i + 1) (acc ++ [Int.tmod (wrap64 (rd l (i : Int))) m]) (by omega) (by simp; omega)
      refine ⟨r, Evt.step h1 fun k => ?_, h2⟩
      rw [turnspitlaw11_Picks.l0, if_pos c, if_pos (by omega), if_pos (by omega), if_neg (by omega), if_pos (by omega), hw]
    · exact ⟨acc, Evt.step (Evt.now acc) fun k => by rw [turnspitlaw11_Picks.l0, if_neg c], by omega⟩
theorem picks_f (m : Int) (hm : 2 ≤ m) (l : List Int) (hl : l.length ≤ 140737488351232) : ∃ r, Evt (fun k => turnspitlaw11_Picks.f k m l) r ∧ r.length ≤ 300 := picks_l0 m hm l hl 300 0 [] (by omega) (by simp)
theorem take_le_ {α : Type} (l : List α) (n : Nat) : (l.take n).length ≤ l.length := by rw [List.length_take]; omega
theorem stuck_f {ord : Bool} {jobs : List (List Pr)} {s : PS} (g : Gd ord jobs s) (hJ : Six jobs) (hm : jobs.length ≤ 64) : locks_Stuck.f (ws52 (outP ord jobs s.all)) = some ((stuckP (outP ord jobs s.all)).1, (stuckP (outP ord jobs s.all)).2) := by
  have hget : ∀ x ∈ ws52 (outP ord jobs s.all), ∃ k, k < jobs.length ∧ x = (⟨held ord jobs s k, if hasS s k < (scS ord jobs s k).length then (scS ord jobs s k).getD (hasS s k) 0 else -1⟩ : S52) := by
    intro x hx
    obtain ⟨y, h1, rfl⟩ := List.mem_map.1 hx
    obtain ⟨k, h2, h3⟩ := List.getElem_of_mem h1
    rw [outP_length] at h2
    refine ⟨k, h2, ?_⟩
    have := outP_getD (ord := ord) s k h2
    rw [List.getD_eq_getElem?_getD, List.getElem?_eq_getElem (by rw [outP_length]; exact h2)] at this
    rw [← h3, show (outP ord jobs s.all)[k] = _ from this]
  have hin : inAll (ws52 (outP ord jobs s.all)) = true ∧ holdsTotal (ws52 (outP ord jobs s.all)) ≤ 1000000 := by
    refine ⟨?_, ?_⟩
    · refine List.all_eq_true.2 fun x hx => ?_
      obtain ⟨k, hk, rfl⟩ := hget x hx
      rw [Bool.and_eq_true]
      refine ⟨decide_eq_true ?_, List.all_eq_true.2 fun y hy => decide_eq_true ?_⟩
      · have hv : -1 ≤ (if hasS s k < (scS ord jobs s k).length then (scS ord jobs s k).getD (hasS s k) 0 else -1) ∧ (if hasS s k < (scS ord jobs s k).length then (scS ord jobs s k).getD (hasS s k) 0 else -1) < 6 := by
          split
          · rename_i c
            have := sc_rng hJ (getD_mem_ _ _ 0 c)
            omega
          · omega
        exact ⟨Int.le_trans (by decide) hv.1, Int.le_trans (Int.le_of_lt hv.2) (by decide)⟩
      · have := held_rng hJ hy
        omega
    · unfold holdsTotal
      have : ∀ (L : List S52), (∀ x ∈ L, x.f0.length ≤ 2) → (L.map fun x => x.f0.length).sum ≤ 2 * L.length := by
        intro L
        induction L with
        | nil => intro _; simp
        | cons a t ih =>
          intro h
          have h1 := h a List.mem_cons_self
          have h2 := ih (fun x hx => h x (List.mem_cons_of_mem _ hx))
          rw [List.map_cons, List.sum_cons, List.length_cons]
          omega
      have h2 := this (ws52 (outP ord jobs s.all)) (fun x hx => by
        obtain ⟨k, hk, rfl⟩ := hget x hx
        exact Nat.le_trans (take_le_ _ _) (secAt_length _ _ _))
      have h3 : (ws52 (outP ord jobs s.all)).length = jobs.length := by unfold ws52; rw [List.length_map, outP_length]
      omega
  unfold locks_Stuck.f
  rw [ws52_pr, if_pos hin]
theorem ws_rd {ord : Bool} {jobs : List (List Pr)} (s : PS) (k : Nat) (hk : k < jobs.length) : rd_T52 (ws52 (outP ord jobs s.all)) (k : Int) = ⟨held ord jobs s k, if hasS s k < (scS ord jobs s k).length then (scS ord jobs s k).getD (hasS s k) 0 else -1⟩ := by
  have h := outP_getD (ord := ord) s k hk
  rw [rd_T52, Int.toNat_natCast, List.getD_eq_getElem?_getD]
  unfold ws52
  rw [List.getElem?_map]
  rw [List.getD_eq_getElem?_getD, List.getElem?_eq_getElem (by rw [outP_length]; exact hk)] at h
  rw [List.getElem?_eq_getElem (by rw [outP_length]; exact hk)]
  rw [show (outP ord jobs s.all)[k]'(by rw [outP_length]; exact hk) = _ from h]
  rfl
theorem ws_length {ord : Bool} {jobs : List (List Pr)} (s : PS) : (ws52 (outP ord jobs s.all)).length = jobs.length := by unfold ws52; rw [List.length_map, outP_length]

theorem ints_l0 (l : List Int) (h : l.length ≤ 1000000) : ∀ (d i : Nat), d + i = l.length → Evt (fun k => turnspitref04_Ints.l0 k l l (i : Int)) true
  | 0, i, hi => Evt.step (Evt.now true) fun k => by rw [turnspitref04_Ints.l0, if_neg (by omega)]
  | d + 1, i, hi => by
    have hw : wrap64 ((i : Int) + 1) = ((i + 1 : Nat) : Int) := by unfold wrap64; omega
    refine Evt.step (ints_l0 l h d (i + 1) (by omega)) fun k => ?_
    rw [turnspitref04_Ints.l0, if_pos (by omega), if_pos (by omega), if_pos (by omega), if_pos rfl, hw]
theorem ints_f (l : List Int) (h : l.length ≤ 1000000) : Evt (fun k => turnspitref04_Ints.f k l l) true := by
  obtain ⟨K, hK⟩ := ints_l0 l h l.length 0 (by omega)
  exact ⟨K, fun k hk => by show turnspitref04_Ints.f k l l = some true; unfold turnspitref04_Ints.f; rw [if_pos rfl]; exact hK k hk⟩
theorem castL_rd (s : List Nat) (i : Nat) (h : i < s.length) : rd (castL s) (i : Int) = ((s[i] : Nat) : Int) := by
  rw [rd, Int.toNat_natCast, List.getD_eq_getElem?_getD, castL, List.getElem?_map, List.getElem?_eq_getElem h]; rfl
theorem castL_length (s : List Nat) : (castL s).length = s.length := List.length_map ..
section
variable (w v : List S52) (done after : List Int) (Z T : List Nat)
theorem l2_step (x23 : Int) (k : Nat) (r : Bool) (ha : after.length ≤ 1000000) (hk : ∀ j, done.length ≤ j → j < after.length → after.getD j 0 ≠ (k : Int)) (h : Evt (fun q => turnspitlaw11_LocksDead.l0 q true w done v after (castL Z) (castL T) (wrap64 (x23 + 1))) r) : ∀ (d j : Nat), done.length ≤ j → d + j = max after.length done.length →
    Evt (fun q => turnspitlaw11_LocksDead.l2 q true w done v after (castL Z) (castL T) x23 (k : Int) (j : Int)) r
  | 0, j, hj, hd => Evt.step h fun q => by rw [turnspitlaw11_LocksDead.l2, if_neg (by omega)]
  | d + 1, j, hj, hd => by
    have hjl : j < after.length := by omega
    have hw : wrap64 ((j : Int) + 1) = ((j + 1 : Nat) : Int) := by unfold wrap64; omega
    have hrd : rd after (j : Int) = after.getD j 0 := by rw [rd, Int.toNat_natCast]
    refine Evt.step (l2_step x23 k r ha hk h d (j + 1) (by omega) (by omega)) fun q => ?_
    rw [turnspitlaw11_LocksDead.l2, if_pos (by omega), if_pos (by omega), hrd, if_neg (hk j hj hjl), hw]
theorem l1_step (x23 : Int) (k : Nat) (r : Bool) (hT : T.length ≤ 1000) (hkv : k < v.length) (hkw : k < w.length) (hwt : (rd_T52 v (k : Int)).f1 = (rd_T52 w (k : Int)).f1) (hhd : (rd_T52 v (k : Int)).f0 = (rd_T52 w (k : Int)).f0) (hsm : (rd_T52 w (k : Int)).f0.length ≤ 1000)
    (h : Evt (fun q => turnspitlaw11_LocksDead.l2 q true w done v after (castL Z) (castL T) x23 (k : Int) (done.length : Int)) r) : ∀ (d j : Nat) (still : Bool), d + j = T.length → (still = true ∨ k ∈ T.drop j) →
    Evt (fun q => turnspitlaw11_LocksDead.l1 q true w done v after (castL Z) (castL T) x23 (k : Int) still (j : Int)) r
  | 0, j, still, hj, hs => by
    have hst : still = true := by
      rcases hs with hs | hs
      · exact hs
      · rw [List.drop_eq_nil_of_le (by omega)] at hs; cases hs
    subst hst
    refine Evt.step (h := fun q => (turnspitref04_Ints.f q (rd_T52 v (k : Int)).f0 (rd_T52 w (k : Int)).f0).bind fun t => turnspitlaw11_LocksDead.j3 q true w done v after (castL Z) (castL T) x23 (k : Int) (!t)) ?_ fun q => by
      rw [turnspitlaw11_LocksDead.l1, if_neg (by rw [castL_length]; omega), if_pos rfl, if_pos (by omega), if_pos (by omega), if_pos (by omega), if_pos hwt]
    rw [hhd]
    refine Evt.bind (ints_f _ (by omega)) ?_
    exact Evt.step h fun q => by rw [turnspitlaw11_LocksDead.j3, if_neg (by simp)]
  | d + 1, j, still, hj, hs => by
    have hw : wrap64 ((j : Int) + 1) = ((j + 1 : Nat) : Int) := by unfold wrap64; omega
    by_cases c : still = true
    · subst c
      refine Evt.step (l1_step x23 k r hT hkv hkw hwt hhd hsm h d (j + 1) true (by omega) (Or.inl rfl)) fun q => ?_
      rw [turnspitlaw11_LocksDead.l1, if_pos (by rw [castL_length]; omega), if_pos rfl, hw]
    · have hm := hs.resolve_left c
      rw [List.drop_eq_getElem_cons (by omega)] at hm
      refine Evt.step (l1_step x23 k r hT hkv hkw hwt hhd hsm h d (j + 1) ((rd (castL T) (j : Int)) == (k : Int)) (by omega) ?_) fun q => ?_
      · rcases List.mem_cons.1 hm with hm | hm
        · left
          rw [castL_rd T j (by omega), ← hm]
          exact beq_self_eq_true _
        · exact Or.inr hm
      · rw [turnspitlaw11_LocksDead.l1, if_pos (by rw [castL_length]; omega), if_neg c, if_pos (by omega), hw]
theorem l0_step (ha : after.length ≤ 1000000) (hZl : Z.length ≤ 1000) (hT : T.length ≤ 1000) (hall : ∀ k ∈ Z, k < v.length ∧ k < w.length ∧ (rd_T52 v (k : Int)).f1 = (rd_T52 w (k : Int)).f1 ∧ (rd_T52 v (k : Int)).f0 = (rd_T52 w (k : Int)).f0 ∧ (rd_T52 w (k : Int)).f0.length ≤ 1000 ∧ k ∈ T ∧ ∀ j, done.length ≤ j → j < after.length → after.getD j 0 ≠ (k : Int)) : ∀ (d i : Nat), d + i = Z.length →
    Evt (fun q => turnspitlaw11_LocksDead.l0 q true w done v after (castL Z) (castL T) (i : Int)) true
  | 0, i, hi => Evt.step (Evt.now true) fun q => by rw [turnspitlaw11_LocksDead.l0, if_neg (by rw [castL_length]; omega)]
  | d + 1, i, hi => by
    have hw : wrap64 ((i : Int) + 1) = ((i + 1 : Nat) : Int) := by unfold wrap64; omega
    obtain ⟨h1, h2, h3, h4, h5, h6, h7⟩ := hall Z[i] (List.getElem_mem (by omega))
    refine Evt.step (l1_step w v done after Z T (i : Int) Z[i] true hT h1 h2 h3 h4 h5 (l2_step w v done after Z T (i : Int) Z[i] true ha h7 (by rw [hw]; exact l0_step ha hZl hT hall d (i + 1) (by omega)) (max after.length done.length - done.length) done.length (Nat.le_refl _) (by omega)) T.length 0 false (by omega) (Or.inr (by rw [List.drop_zero]; exact h6))) fun q => ?_
    rw [turnspitlaw11_LocksDead.l0, if_pos (by rw [castL_length]; omega), if_pos (by omega), castL_rd Z i (by omega)]; rfl
end
theorem done_le {ord : Bool} {jobs : List (List Pr)} (ps : List Int) : (playsP 6 jobs ord ps).done.length ≤ ps.length := by
  have := (Ok.plays ord 6 (by omega) jobs ps ps.length (Nat.le_refl _)).done
  rwa [List.take_length] at this
theorem stuck_len {L : List (List Int × Int)} {Z : List Nat} (h : stuckP L = (castL Z, 0)) (hl : L.length ≤ 64) : Z.length ≤ 64 := by
  have h1 : (stuckP L).1.length ≤ L.length := by
    unfold stuckP
    split
    · simp
    · split
      · simp
      · unfold leftP
        rw [List.length_map]
        exact Nat.le_trans (List.length_filter_le _ _) (by rw [List.length_range]; exact Nat.le_refl _)
  rw [h, castL_length] at h1
  omega
theorem dead_holds (l0 l1 l2 : List Int) (h0 : ∀ x ∈ l0, (Lit.int .u16 x).wf = true) (h1 : l1.length ≤ 140737488351232) (h2 : l2.length ≤ 140737488351232) : ∃ k, turnspitlaw11_LocksDead.f k l0 l1 l2 = some true := by
  refine Evt.get ?_
  have hm := many_rng l0
  have hl : (prs (jobsP l0)).length ≤ 64 := by rw [prs_jobs_length]; omega
  obtain ⟨ps, hp, hpl⟩ := picks_f (manyP l0) hm.1 l1 h1
  obtain ⟨qs, hq, hql⟩ := picks_f (manyP l0) hm.1 l2 h2
  have hJ := jobs_six l0 h0
  have g := plays_gd (ord := false) hJ ps
  have g2 := plays_gd (ord := false) hJ (ps ++ qs)
  obtain ⟨Z, z1, z2, z3, _⟩ := g.stuck hJ hl
  obtain ⟨T, t1, t2, t3, t4⟩ := g2.stuck hJ hl
  have hsame : Same (playsP 6 (prs (jobsP l0)) false ps) (playsP 6 (prs (jobsP l0)) false (ps ++ qs)) Z := by
    have := Same.plays hJ z2 z3 qs _ g (Same.refl _ Z)
    unfold playsP at this ⊢
    rw [List.foldl_append]
    exact this
  obtain ⟨e, he1, he2⟩ := hsame.done
  have hdl := done_le (ord := false) (jobs := prs (jobsP l0)) (ps ++ qs)
  have hzl := stuck_len z1 (by rw [outP_length]; exact hl)
  have htl := stuck_len t1 (by rw [outP_length]; exact hl)
  unfold turnspitlaw11_LocksDead.f
  have e1 : turnspitlaw11_awake.f = some true := rfl
  have e2 : turnspitlaw11_Jobs.f l0 = some (jobsP l0) := by unfold turnspitlaw11_Jobs.f; rw [if_pos (u16_of h0)]
  rw [e1, e2]
  simp only [Option.bind_some, if_true]
  rw [show (((jobsP l0).length : Nat) : Int) = manyP l0 by rw [jobs_length]; omega]
  refine Evt.bind hp ?_
  refine Evt.bind hq ?_
  rw [play_f l0 h0 false ps (by omega)]
  simp only [Option.bind_some, List.nil_append]
  have hd1 : (([] : List Int).length + ps.length < 17592186044416) = True := eq_true (by simp; omega)
  have hd2 : (ps.length + qs.length < 17592186044416) = True := eq_true (by omega)
  simp only [hd1, hd2, if_true, Option.bind_some, play_f l0 h0 false (ps ++ qs) (by simp; omega), stuck_f g hJ hl, stuck_f g2 hJ hl, z1, t1]
  have hc1 : ((((playsP 6 (prs (jobsP l0)) false (ps ++ qs)).done.length : Nat) : Int) < (((playsP 6 (prs (jobsP l0)) false ps).done.length : Nat) : Int)) = False := eq_false (by rw [he1, List.length_append]; omega)
  have hc2 : ((((ws52 (outP false (prs (jobsP l0)) (playsP 6 (prs (jobsP l0)) false (ps ++ qs)).all)).length : Nat) : Int) != (((ws52 (outP false (prs (jobsP l0)) (playsP 6 (prs (jobsP l0)) false ps).all)).length : Nat) : Int)) = false := by rw [ws_length, ws_length]; simp
  simp only [hc1, hc2, if_false]
  have hA : (playsP 6 (prs (jobsP l0)) false (ps ++ qs)).done.length ≤ 1000000 := by rw [List.length_append] at hdl; omega
  refine Evt.step (l0_step (ws52 (outP false (prs (jobsP l0)) (playsP 6 (prs (jobsP l0)) false ps).all)) (ws52 (outP false (prs (jobsP l0)) (playsP 6 (prs (jobsP l0)) false (ps ++ qs)).all)) (playsP 6 (prs (jobsP l0)) false ps).done _ Z T hA (by omega) (by omega) (fun k hk => ?_) Z.length 0 (by omega)) fun q => ?_
  · have hkl := z2 k hk
    rw [ws_rd _ k hkl, ws_rd _ k hkl]
    refine ⟨by rw [ws_length]; exact hkl, by rw [ws_length]; exact hkl, ?_, ?_, ?_, t4 _ (hsame.post z2 z3) k hk hkl, fun j hj hj2 => ?_⟩
    · show (if hasS _ k < (scS false _ _ k).length then (scS false _ _ k).getD (hasS _ k) 0 else -1) = _
      unfold scS hasS
      rw [hsame.all k hk]
    · exact hsame.held hk
    · exact Nat.le_trans (Nat.le_trans (take_le_ _ _) (secAt_length _ _ _)) (by omega)
    · rw [he1] at hj2 ⊢
      rw [List.getD_eq_getElem?_getD, List.getElem?_append_right hj]
      intro hh
      rw [List.length_append] at hj2
      rw [List.getElem?_eq_getElem (by omega)] at hh
      exact he2 k hk (by rw [← show _ = (k : Int) from hh]; exact List.getElem_mem (by omega))
  · rw [turnspitlaw11_LocksDead.j0, if_neg (by simp)]; rfl
end Go.Proofs.Ytiidjnnagbfokaa.QLocksDead
namespace Go.Proofs.Ytiidjnnagbfokaa.Pure
open Go.RowKit Go.Proofs.Ytiidjnnagbfokaa.QLocksDead Go.Proofs.YtiidjnnagbfokaaW.PrintWords Go.Proofs.YtiidjnnagbfokaaW.PrintLast
theorem LocksDead : turnspitlaw11_LocksDead.Pure := by
  intro l0 l1 l2 _ _ h0 _ h1 _ _ h2 _
  exact dead_holds l0 l1 l2 h0 (by omega) (by omega)
end Go.Proofs.Ytiidjnnagbfokaa.Pure
