/- Each lock has one at most: who is told to have it, and nobody else; no condition. -/
import Derived.Test.YtiidjnnagbfokaaQLocksAlonex1
import Derived.Test.YtiidjnnagbfokaaQLocksAlonex3
import Derived.Test.YtiidjnnagbfokaaQLocksAlonex4
import Derived.Test.YtiidjnnagbfokaaQLocksAlonex5
import Derived.Test.YtiidjnnagbfokaaTheory
namespace Go.Proofs.Ytiidjnnagbfokaa.QLocksAlone
open Go Go.RowKit Go.Proofs.Ytiidjnnagbfokaa.Lk Go.Proofs.YtiidjnnagbfokaaW.PrintWords Go.Proofs.YtiidjnnagbfokaaW.PrintLast Go.Proofs.YtiidjnnagbfokaaW.PrintMore
set_option linter.unusedVariables false
/-! ### what is alike in the laws over jobs -/
theorem u16_of {l : List Int} (h : ∀ x ∈ l, (Lit.int .u16 x).wf = true) : u16s l = true := by
  refine List.all_eq_true.2 fun x hx => decide_eq_true ?_
  have := h x hx
  simp [Lit.wf, IntKind.min, IntKind.max, IntKind.signed, IntKind.bits] at this
  omega
theorem many_rng (l : List Int) : 2 ≤ manyP l ∧ manyP l ≤ 5 := by
  unfold manyP
  split <;> omega
theorem jobP_length (m : Int) (rows : List (List S55)) (x : Int) : (jobP m rows x).length = rows.length := by unfold jobP; rw [List.length_set]
theorem jobs_length (l : List Int) : (jobsP l).length = (manyP l).toNat := by
  unfold jobsP
  have : ∀ (xs : List Int) (rows : List (List S55)), (xs.foldl (jobP (manyP l)) rows).length = rows.length := by
    intro xs
    induction xs with
    | nil => intro rows; rfl
    | cons x t ih => intro rows; rw [List.foldl_cons, ih, jobP_length]
  rw [this, List.length_replicate]
/-- Sections of two of six locks; at most nineteen -/
theorem jobs_inv (m : Int) : ∀ (xs : List Int), (∀ x ∈ xs, 0 ≤ x) → ∀ (rows : List (List S55)), (∀ row ∈ rows, ∀ s ∈ row, 0 ≤ s.f0 ∧ s.f0 < 6 ∧ 0 ≤ s.f1 ∧ s.f1 < 6) →
    (∀ row ∈ xs.foldl (jobP m) rows, ∀ s ∈ row, 0 ≤ s.f0 ∧ s.f0 < 6 ∧ 0 ≤ s.f1 ∧ s.f1 < 6) ∧ (xs.foldl (jobP m) rows).flatten.length ≤ rows.flatten.length + xs.length
  | [], _, rows, h => ⟨h, Nat.le_refl _⟩
  | x :: t, hx, rows, h => by
    have hx0 := hx x List.mem_cons_self
    have hsec : 0 ≤ (secP x).f0 ∧ (secP x).f0 < 6 ∧ 0 ≤ (secP x).f1 ∧ (secP x).f1 < 6 := by
      unfold secP
      show 0 ≤ x % 6 ∧ x % 6 < 6 ∧ 0 ≤ x / 6 % 6 ∧ x / 6 % 6 < 6
      omega
    have hget : ∀ k, ∀ s ∈ rows.getD k [], 0 ≤ s.f0 ∧ s.f0 < 6 ∧ 0 ≤ s.f1 ∧ s.f1 < 6 := by
      intro k s hs
      by_cases hk : k < rows.length
      · rw [List.getD_eq_getElem?_getD, List.getElem?_eq_getElem hk] at hs
        exact h _ (List.getElem_mem hk) s hs
      · rw [List.getD_eq_getElem?_getD, List.getElem?_eq_none (by omega)] at hs
        cases hs
    have hfl : ∀ (k : Nat) (rows : List (List S55)), (rows.set k (rows.getD k [] ++ [secP x])).flatten.length ≤ rows.flatten.length + 1 := by
      intro k rows
      induction rows generalizing k with
      | nil => simp
      | cons r t ih =>
        cases k with
        | zero => simp [List.getD_eq_getElem?_getD]; omega
        | succ k =>
          have := ih k
          simp only [List.getD_eq_getElem?_getD, List.set_cons_succ, List.getElem?_cons_succ, List.flatten_cons, List.length_append] at this ⊢
          omega
    obtain ⟨h1, h2⟩ := jobs_inv m t (fun y hy => hx y (List.mem_cons_of_mem _ hy)) (jobP m rows x) (fun row hr s hs => by
      unfold jobP at hr
      rcases List.mem_or_eq_of_mem_set hr with hr | rfl
      · exact h row hr s hs
      · rcases List.mem_append.1 hs with hs | hs
        · exact hget _ s hs
        · rw [List.mem_singleton.1 hs]; exact hsec)
    refine ⟨h1, ?_⟩
    have := hfl (x / 36 % m).toNat rows
    have h3 : (jobP m rows x).flatten.length ≤ rows.flatten.length + 1 := this
    rw [List.foldl_cons]
    simp only [List.length_cons]
    omega
theorem jobs_all (l : List Int) (h : ∀ x ∈ l, (Lit.int .u16 x).wf = true) : (∀ row ∈ jobsP l, ∀ s ∈ row, 0 ≤ s.f0 ∧ s.f0 < 6 ∧ 0 ≤ s.f1 ∧ s.f1 < 6) ∧ (jobsP l).flatten.length ≤ 19 := by
  have hx : ∀ x ∈ (l.drop 1).take 19, 0 ≤ x := fun x hx => by
    have := List.all_eq_true.1 (u16_of h) x (List.mem_of_mem_drop (List.mem_of_mem_take hx))
    have := of_decide_eq_true this
    omega
  obtain ⟨h1, h2⟩ := jobs_inv (manyP l) ((l.drop 1).take 19) hx (List.replicate (manyP l).toNat []) (fun row hr s hs => by rw [List.eq_of_mem_replicate hr] at hs; cases hs)
  refine ⟨h1, Nat.le_trans h2 ?_⟩
  have : ∀ n, (List.replicate n ([] : List S55)).flatten.length = 0 := fun n => by simp
  rw [this]
  simp
  omega
theorem jobs_six (l : List Int) (h : ∀ x ∈ l, (Lit.int .u16 x).wf = true) : Six (prs (jobsP l)) := by
  intro k p hp
  by_cases hk : k < (jobsP l).length
  · rw [prs, List.getD_eq_getElem?_getD, List.getElem?_map, List.getElem?_eq_getElem hk] at hp
    obtain ⟨s, h1, rfl⟩ := List.mem_map.1 hp
    have := (jobs_all l h).1 _ (List.getElem_mem hk) s h1
    exact ⟨this.1, this.2.1, this.2.2.1, this.2.2.2⟩
  · rw [prs, List.getD_eq_getElem?_getD, List.getElem?_map, List.getElem?_eq_none (by omega)] at hp
    cases hp
theorem prs_jobs_length (l : List Int) : (prs (jobsP l)).length = (manyP l).toNat := by rw [prs_length, jobs_length]
def ws52 (L : List (List Int × Int)) : List S52 := L.map (fun x => (⟨x.1, x.2⟩ : S52))
theorem ws52_pr (L : List (List Int × Int)) : (ws52 L).map pr52 = L := by
  unfold ws52
  rw [List.map_map]
  exact List.map_id'' (fun _ => rfl) L
theorem play_f (l : List Int) (h : ∀ x ∈ l, (Lit.int .u16 x).wf = true) (ord : Bool) (ps : List Int) (hp : ps.length ≤ 20000) :
    locks_Play.f 6 (jobsP l) ord ps = some ((playsP 6 (prs (jobsP l)) ord ps).by_, ws52 (outP ord (prs (jobsP l)) (playsP 6 (prs (jobsP l)) ord ps).all), (playsP 6 (prs (jobsP l)) ord ps).done, 0) := by
  unfold locks_Play.f
  have hm := many_rng l
  rw [if_pos ⟨by rw [jobs_length]; omega, by have := (jobs_all l h).2; unfold total; omega⟩, playP_six (jobs_six l h) (by rw [prs_jobs_length]; omega) ps hp]
  rfl
theorem picks_l0 (m : Int) (hm : 2 ≤ m) (l : List Int) (hl : l.length ≤ 140737488351232) : ∀ (d i : Nat) (acc : List Int), d + i = 300 → acc.length ≤ i → ∃ r, Evt (fun k => turnspitlaw11_Picks.l0 k m l acc (i : Int)) r ∧ r.length ≤ 300
  | 0, i, acc, hi, ha => by
    obtain rfl : i = 300 := by omega
    refine ⟨acc, Evt.step (Evt.now acc) fun k => ?_, ha⟩
    rw [turnspitlaw11_Picks.l0]
    by_cases c : ((300 : Nat) : Int) < (l.length : Int)
    · rw [if_pos c, if_neg (by omega)]
    · rw [if_neg c]
  | d + 1, i, acc, hi, ha => by
    by_cases c : (i : Int) < (l.length : Int)
    · have hw : wrap64 ((i : Int) + 1) = ((i + 1 : Nat) : Int) := by unfold wrap64; omega
      obtain ⟨r, h1, h2⟩ := picks_l0 m hm l hl d (i + 1) (acc ++ [Int.tmod (wrap64 (rd l (i : Int))) m]) (by omega) (by simp; omega)
      refine ⟨r, Evt.step h1 fun k => ?_, h2⟩
      rw [turnspitlaw11_Picks.l0, if_pos c, if_pos (by omega), if_pos (by omega), if_neg (by omega), if_pos (by omega), hw]
    · exact ⟨acc, Evt.step (Evt.now acc) fun k => by rw [turnspitlaw11_Picks.l0, if_neg c], by omega⟩
theorem picks_f (m : Int) (hm : 2 ≤ m) (l : List Int) (hl : l.length ≤ 140737488351232) : ∃ r, Evt (fun k => turnspitlaw11_Picks.f k m l) r ∧ r.length ≤ 300 := picks_l0 m hm l hl 300 0 [] (by omega) (by simp)
theorem take_le_ {α : Type} (l : List α) (n : Nat) : (l.take n).length ≤ l.length := by rw [List.length_take]; omega
theorem stuck_f {ord : Bool} {jobs : List (List Pr)} {s : PS} (g : Gd ord jobs s) (hJ : Six jobs) (hm : jobs.length ≤ 64) : locks_Stuck.f (ws52 (outP ord jobs s.all)) = some ((stuckP (outP ord jobs s.all)).1, (stuckP (outP ord jobs s.all)).2) := by
  have hget : ∀ x ∈ ws52 (outP ord jobs s.all), ∃ k, k < jobs.length ∧ x = (⟨held ord jobs s k, if hasS s k < (scS ord jobs s k).length then (scS ord jobs s k).getD (hasS s k) 0 else -1⟩ : S52) := by
    intro x hx
    obtain ⟨y, h1, rfl⟩ := List.mem_map.1 hx
    obtain ⟨k, h2, h3⟩ := List.getElem_of_mem h1
    rw [outP_length] at h2
    refine ⟨k, h2, ?_⟩
    have := outP_getD (ord := ord) s k h2
    rw [List.getD_eq_getElem?_getD, List.getElem?_eq_getElem (by rw [outP_length]; exact h2)] at this
    rw [← h3, show (outP ord jobs s.all)[k] = _ from this]
  have hin : inAll (ws52 (outP ord jobs s.all)) = true ∧ holdsTotal (ws52 (outP ord jobs s.all)) ≤ 1000000 := by
    refine ⟨?_, ?_⟩
    · refine List.all_eq_true.2 fun x hx => ?_
      obtain ⟨k, hk, rfl⟩ := hget x hx
      rw [Bool.and_eq_true]
      refine ⟨decide_eq_true ?_, List.all_eq_true.2 fun y hy => decide_eq_true ?_⟩
      · have hv : -1 ≤ (if hasS s k < (scS ord jobs s k).length then (scS ord jobs s k).getD (hasS s k) 0 else -1) ∧ (if hasS s k < (scS ord jobs s k).length then (scS ord jobs s k).getD (hasS s k) 0 else -1) < 6 := by
          split
          · rename_i c
            have := sc_rng hJ (getD_mem_ _ _ 0 c)
            omega
          · omega
        exact ⟨Int.le_trans (by decide) hv.1, Int.le_trans (Int.le_of_lt hv.2) (by decide)⟩
      · have := held_rng hJ hy
        omega
    · unfold holdsTotal
      have : ∀ (L : List S52), (∀ x ∈ L, x.f0.length ≤ 2) → (L.map fun x => x.f0.length).sum ≤ 2 * L.length := by
        intro L
        induction L with
        | nil => intro _; simp
        | cons a t ih =>
          intro h
          have h1 := h a List.mem_cons_self
          have h2 := ih (fun x hx => h x (List.mem_cons_of_mem _ hx))
          rw [List.map_cons, List.sum_cons, List.length_cons]
          omega
      have h2 := this (ws52 (outP ord jobs s.all)) (fun x hx => by
        obtain ⟨k, hk, rfl⟩ := hget x hx
        exact Nat.le_trans (take_le_ _ _) (secAt_length _ _ _))
      have h3 : (ws52 (outP ord jobs s.all)).length = jobs.length := by unfold ws52; rw [List.length_map, outP_length]
      omega
  unfold locks_Stuck.f
  rw [ws52_pr, if_pos hin]
theorem ws_rd {ord : Bool} {jobs : List (List Pr)} (s : PS) (k : Nat) (hk : k < jobs.length) : rd_T52 (ws52 (outP ord jobs s.all)) (k : Int) = ⟨held ord jobs s k, if hasS s k < (scS ord jobs s k).length then (scS ord jobs s k).getD (hasS s k) 0 else -1⟩ := by
  have h := outP_getD (ord := ord) s k hk
  rw [rd_T52, Int.toNat_natCast, List.getD_eq_getElem?_getD]
  unfold ws52
  rw [List.getElem?_map]
  rw [List.getD_eq_getElem?_getD, List.getElem?_eq_getElem (by rw [outP_length]; exact hk)] at h
  rw [List.getElem?_eq_getElem (by rw [outP_length]; exact hk)]
  rw [show (outP ord jobs s.all)[k]'(by rw [outP_length]; exact hk) = _ from h]
  rfl
theorem ws_length {ord : Bool} {jobs : List (List Pr)} (s : PS) : (ws52 (outP ord jobs s.all)).length = jobs.length := by unfold ws52; rw [List.length_map, outP_length]

section
variable {ord : Bool} {jobs : List (List Pr)} {s : PS}
theorem l2_step (g : Gd ord jobs s) : ∀ (d i c : Nat), d + i = 6 → c = (((List.range 6).drop i).filter fun x => decide (s.by_.getD x 0 ≥ 0)).length → Evt (fun k => turnspitlaw11_LocksAlone.l2 k true (c : Int) (i : Int) s.by_) true
  | 0, i, c, hi, hc => by
    obtain rfl : i = 6 := by omega
    have : c = 0 := by rw [hc]; rfl
    subst this
    exact Evt.step (Evt.now true) fun k => by rw [turnspitlaw11_LocksAlone.l2, if_neg (by omega), if_pos rfl]; rfl
  | d + 1, i, c, hi, hc => by
    have hw : wrap64 ((i : Int) + 1) = ((i + 1 : Nat) : Int) := by unfold wrap64; omega
    have hd : (List.range 6).drop i = i :: (List.range 6).drop (i + 1) := by rw [List.drop_eq_getElem_cons (by simp; omega), List.getElem_range]
    have hrd : rd s.by_ (i : Int) = s.by_.getD i 0 := by rw [rd, Int.toNat_natCast]
    rw [hd, List.filter_cons] at hc
    by_cases cb : s.by_.getD i 0 ≥ 0
    · rw [if_pos (decide_eq_true cb), List.length_cons] at hc
      have hle : (((List.range 6).drop (i + 1)).filter fun x => decide (s.by_.getD x 0 ≥ 0)).length ≤ 6 := Nat.le_trans (List.length_filter_le _ _) (by simp; omega)
      refine Evt.step (l2_step g d (i + 1) (c - 1) (by omega) (by omega)) fun k => ?_
      have hw2 : wrap64 ((c : Int) - 1) = ((c - 1 : Nat) : Int) := by unfold wrap64; omega
      rw [turnspitlaw11_LocksAlone.l2, if_pos (by omega), if_pos (by omega), if_pos (by rw [g.by6]; omega), hrd, if_pos cb, hw, hw2]
    · rw [if_neg (by simpa using cb)] at hc
      refine Evt.step (l2_step g d (i + 1) c (by omega) hc) fun k => ?_
      rw [turnspitlaw11_LocksAlone.l2, if_pos (by omega), if_pos (by omega), if_pos (by rw [g.by6]; omega), hrd, if_neg cb, hw]
theorem l1_step (g : Gd ord jobs s) (hJ : Six jobs) (hm64 : jobs.length ≤ 64) (kk : Nat) (hk : kk < jobs.length) (r : Bool) : ∀ (d j c : Nat), d + j = (held ord jobs s kk).length → c + d ≤ 1000 → Evt (fun k => turnspitlaw11_LocksAlone.l0 k true (ws52 (outP ord jobs s.all)) ((c + d : Nat) : Int) ((kk + 1 : Nat) : Int) s.by_) r →
    Evt (fun k => turnspitlaw11_LocksAlone.l1 k true (ws52 (outP ord jobs s.all)) (c : Int) (kk : Int) (j : Int) s.by_) r
  | 0, j, c, hj, hc, h => by
    refine Evt.step h fun k => ?_
    rw [turnspitlaw11_LocksAlone.l1, if_pos (by omega), if_pos (by rw [ws_length]; omega), ws_rd s kk hk, if_neg (by show ¬ (j : Int) < ((held ord jobs s kk).length : Int); omega)]
    rw [show wrap64 ((kk : Int) + 1) = ((kk + 1 : Nat) : Int) from by unfold wrap64; omega]
    rfl
  | d + 1, j, c, hj, hc, h => by
    have hlen : (held ord jobs s kk).length ≤ 2 := Nat.le_trans (take_le_ _ _) (secAt_length _ _ _)
    have hw : wrap64 ((j : Int) + 1) = ((j + 1 : Nat) : Int) := by unfold wrap64; omega
    have hw2 : wrap64 ((c : Int) + 1) = ((c + 1 : Nat) : Int) := by unfold wrap64; omega
    have hm : (held ord jobs s kk)[j] ∈ held ord jobs s kk := List.getElem_mem (by omega)
    have hr := held_rng hJ hm
    have hrd : rd (held ord jobs s kk) (j : Int) = (held ord jobs s kk)[j] := by rw [rd, Int.toNat_natCast, List.getD_eq_getElem?_getD, List.getElem?_eq_getElem (by omega)]; rfl
    have hown : rd s.by_ (held ord jobs s kk)[j] = (kk : Int) := by
      rw [rd]
      refine (g.own _ kk (by omega) hk).2 ?_
      rw [show (((held ord jobs s kk)[j].toNat : Nat) : Int) = (held ord jobs s kk)[j] by omega]
      exact hm
    have hwant : (held ord jobs s kk)[j] ≠ (if hasS s kk < (scS ord jobs s kk).length then (scS ord jobs s kk).getD (hasS s kk) 0 else -1) := by
      split
      · rename_i c
        intro e
        exact nodup_take _ (secAt_nodup _ _) _ c (by rw [show (secAt ord (jobs.getD kk []) (s.all.getD kk (0, 0)).1).getD (hasS s kk) 0 = (held ord jobs s kk)[j] from e.symm]; exact hm)
      · omega
    refine Evt.step (l1_step g hJ hm64 kk hk r d (j + 1) (c + 1) (by omega) (by omega) (by rw [show c + 1 + d = c + (d + 1) by omega]; exact h)) fun k => ?_
    rw [turnspitlaw11_LocksAlone.l1, if_pos (by omega), if_pos (by rw [ws_length]; omega), ws_rd s kk hk]
    simp only
    rw [if_pos (by omega), if_pos (by omega), hrd, if_neg (by omega), if_neg (by omega), if_pos (by omega), if_pos (by rw [g.by6]; omega), hown, if_pos rfl, if_neg hwant, hw, hw2]
theorem l0_step (g : Gd ord jobs s) (hJ : Six jobs) (hm : jobs.length ≤ 64) : ∀ (d i : Nat), d + i = jobs.length → Evt (fun k => turnspitlaw11_LocksAlone.l0 k true (ws52 (outP ord jobs s.all)) ((sumTo (fun k => (held ord jobs s k).length) i : Nat) : Int) (i : Int) s.by_) true
  | 0, i, hi => by
    obtain rfl : i = jobs.length := by omega
    refine Evt.step (l2_step g 6 0 _ (by omega) (g.count hJ)) fun k => ?_
    rw [turnspitlaw11_LocksAlone.l0, if_neg (by rw [ws_length]; omega)]; rfl
  | d + 1, i, hi => by
    have hb : ∀ j, sumTo (fun k => (held ord jobs s k).length) j ≤ 2 * j := by
      intro j
      induction j with
      | zero => exact Nat.le_refl _
      | succ j ih =>
        have : (held ord jobs s j).length ≤ 2 := Nat.le_trans (take_le_ _ _) (secAt_length _ _ _)
        show sumTo _ j + (held ord jobs s j).length ≤ _
        omega
    refine Evt.step (l1_step g hJ hm i (by omega) true (held ord jobs s i).length 0 _ (by omega) (by have := hb i; have : (held ord jobs s i).length ≤ 2 := Nat.le_trans (take_le_ _ _) (secAt_length _ _ _); omega) (l0_step g hJ hm d (i + 1) (by omega))) fun k => ?_
    rw [turnspitlaw11_LocksAlone.l0, if_pos (by rw [ws_length]; omega)]; rfl
end
theorem alone_holds (l0 : List Int) (ord : Bool) (l1 : List Int) (h0 : ∀ x ∈ l0, (Lit.int .u16 x).wf = true) (h1 : l1.length ≤ 140737488351232) : ∃ k, turnspitlaw11_LocksAlone.f k l0 ord l1 = some true := by
  refine Evt.get ?_
  have hm := many_rng l0
  have hl : (prs (jobsP l0)).length ≤ 64 := by rw [prs_jobs_length]; omega
  obtain ⟨ps, hp, hpl⟩ := picks_f (manyP l0) hm.1 l1 h1
  have hJ := jobs_six l0 h0
  have g := plays_gd (ord := ord) hJ ps
  unfold turnspitlaw11_LocksAlone.f
  have e1 : turnspitlaw11_awake.f = some true := rfl
  have e2 : turnspitlaw11_Jobs.f l0 = some (jobsP l0) := by unfold turnspitlaw11_Jobs.f; rw [if_pos (u16_of h0)]
  rw [e1, e2]
  simp only [Option.bind_some, if_true]
  rw [show (((jobsP l0).length : Nat) : Int) = manyP l0 by rw [jobs_length]; omega]
  refine Evt.bind hp ?_
  rw [play_f l0 h0 ord ps (by omega)]
  simp only [Option.bind_some, if_true]
  have hc1 : (((ws52 (outP ord (prs (jobsP l0)) (playsP 6 (prs (jobsP l0)) ord ps).all)).length : Nat) : Int) = manyP l0 := by rw [ws_length, prs_jobs_length]; omega
  have hc2 : ((((playsP 6 (prs (jobsP l0)) ord ps).by_.length : Nat) : Int) != 6) = false := by rw [g.by6]; rfl
  simp only [hc1, hc2, if_true]
  refine Evt.step (l0_step g hJ hl (prs (jobsP l0)).length 0 (by omega)) fun k => ?_
  rw [turnspitlaw11_LocksAlone.j0, if_neg (by simp)]; rfl
end Go.Proofs.Ytiidjnnagbfokaa.QLocksAlone
namespace Go.Proofs.Ytiidjnnagbfokaa.Pure
open Go.RowKit Go.Proofs.Ytiidjnnagbfokaa.QLocksAlone Go.Proofs.YtiidjnnagbfokaaW.PrintWords Go.Proofs.YtiidjnnagbfokaaW.PrintLast
theorem LocksAlone : turnspitlaw11_LocksAlone.Pure := by
  intro l0 a1 l2 _ _ h0 _ h2 _
  exact alone_holds l0 a1 l2 h0 (by omega)
end Go.Proofs.Ytiidjnnagbfokaa.Pure
