/- With ordered, behind whatever picks, all picked in turn, as often as three steps of each section take, get done; no condition. -/
import Derived.Test.YtiidjnnagbfokaaQLocksEndsx1
import Derived.Test.YtiidjnnagbfokaaQLocksEndsx3
import Derived.Test.YtiidjnnagbfokaaQLocksEndsx4
import Derived.Test.YtiidjnnagbfokaaQLocksEndsx5
import Derived.Test.YtiidjnnagbfokaaTheory
namespace Go.Proofs.Ytiidjnnagbfokaa.QLocksEnds
open Go Go.RowKit Go.Proofs.Ytiidjnnagbfokaa.Lk Go.Proofs.YtiidjnnagbfokaaW.PrintWords Go.Proofs.YtiidjnnagbfokaaW.PrintLast Go.Proofs.YtiidjnnagbfokaaW.PrintMore
set_option linter.unusedVariables false
/-! ### what is alike in the laws over jobs -/
theorem u16_of {l : List Int} (h : ∀ x ∈ l, (Lit.int .u16 x).wf = true) : u16s l = true := by
  refine List.all_eq_true.2 fun x hx => decide_eq_true ?_
  have := h x hx
  simp [Lit.wf, IntKind.min, IntKind.max, IntKind.signed, IntKind.bits] at this
  omega
theorem many_rng (l : List Int) : 2 ≤ manyP l ∧ manyP l ≤ 5 := by
  unfold manyP
  split <;> omega
theorem jobP_length (m : Int) (rows : List (List S55)) (x : Int) : (jobP m rows x).length = rows.length := by unfold jobP; rw [List.length_set]
theorem jobs_length (l : List Int) : (jobsP l).length = (manyP l).toNat := by
  unfold jobsP
  have : ∀ (xs : List Int) (rows : List (List S55)), (xs.foldl (jobP (manyP l)) rows).length = rows.length := by
    intro xs
    induction xs with
    | nil => intro rows; rfl
    | cons x t ih => intro rows; rw [List.foldl_cons, ih, jobP_length]
  rw [this, List.length_replicate]
/-- Sections of two of six locks; at most nineteen -/
theorem jobs_inv (m : Int) : ∀ (xs : List Int), (∀ x ∈ xs, 0 ≤ x) → ∀ (rows : List (List S55)), (∀ row ∈ rows, ∀ s ∈ row, 0 ≤ s.f0 ∧ s.f0 < 6 ∧ 0 ≤ s.f1 ∧ s.f1 < 6) →
    (∀ row ∈ xs.foldl (jobP m) rows, ∀ s ∈ row, 0 ≤ s.f0 ∧ s.f0 < 6 ∧ 0 ≤ s.f1 ∧ s.f1 < 6) ∧ (xs.foldl (jobP m) rows).flatten.length ≤ rows.flatten.length + xs.length
  | [], _, rows, h => ⟨h, Nat.le_refl _⟩
  | x :: t, hx, rows, h => by
    have hx0 := hx x List.mem_cons_self
    have hsec : 0 ≤ (secP x).f0 ∧ (secP x).f0 < 6 ∧ 0 ≤ (secP x).f1 ∧ (secP x).f1 < 6 := by
      unfold secP
      show 0 ≤ x % 6 ∧ x % 6 < 6 ∧ 0 ≤ x / 6 % 6 ∧ x / 6 % 6 < 6
      omega
    have hget : ∀ k, ∀ s ∈ rows.getD k [], 0 ≤ s.f0 ∧ s.f0 < 6 ∧ 0 ≤ s.f1 ∧ s.f1 < 6 := by
      intro k s hs
      by_cases hk : k < rows.length
      · rw [List.getD_eq_getElem?_getD, List.getElem?_eq_getElem hk] at hs
        exact h _ (List.getElem_mem hk) s hs
      · rw [List.getD_eq_getElem?_getD, List.getElem?_eq_none (by omega)] at hs
        cases hs
    have hfl : ∀ (k : Nat) (rows : List (List S55)), (rows.set k (rows.getD k [] ++ [secP x])).flatten.length ≤ rows.flatten.length + 1 := by
      intro k rows
      induction rows generalizing k with
      | nil => simp
      | cons r t ih =>
        cases k with
        | zero => simp [List.getD_eq_getElem?_getD]; omega
        | succ k =>
          have := ih k
          simp only [List.getD_eq_getElem?_getD, List.set_cons_succ, List.getElem?_cons_succ, List.flatten_cons, List.length_append] at this ⊢
          omega
    obtain ⟨h1, h2⟩ := jobs_inv m t (fun y hy => hx y (List.mem_cons_of_mem _ hy)) (jobP m rows x) (fun row hr s hs => by
      unfold jobP at hr
      rcases List.mem_or_eq_of_mem_set hr with hr | rfl
      · exact h row hr s hs
      · rcases List.mem_append.1 hs with hs | hs
        · exact hget _ s hs
        · rw [List.mem_singleton.1 hs]; exact hsec)
    refine ⟨h1, ?_⟩
    have := hfl (x / 36 % m).toNat rows
    have h3 : (jobP m rows x).flatten.length ≤ rows.flatten.length + 1 := this
    rw [List.foldl_cons]
    simp only [List.length_cons]
    omega
theorem jobs_all (l : List Int) (h : ∀ x ∈ l, (Lit.int .u16 x).wf = true) : (∀ row ∈ jobsP l, ∀ s ∈ row, 0 ≤ s.f0 ∧ s.f0 < 6 ∧ 0 ≤ s.f1 ∧ s.f1 < 6) ∧ (jobsP l).flatten.length ≤ 19 := by
  have hx : ∀ x ∈ (l.drop 1).take 19, 0 ≤ x := fun x hx => by
    have := List.all_eq_true.1 (u16_of h) x (List.mem_of_mem_drop (List.mem_of_mem_take hx))
    have := of_decide_eq_true this
    omega
  obtain ⟨h1, h2⟩ := jobs_inv (manyP l) ((l.drop 1).take 19) hx (List.replicate (manyP l).toNat []) (fun row hr s hs => by rw [List.eq_of_mem_replicate hr] at hs; cases hs)
  refine ⟨h1, Nat.le_trans h2 ?_⟩
  have : ∀ n, (List.replicate n ([] : List S55)).flatten.length = 0 := fun n => by simp
  rw [this]
  simp
  omega
theorem jobs_six (l : List Int) (h : ∀ x ∈ l, (Lit.int .u16 x).wf = true) : Six (prs (jobsP l)) := by
  intro k p hp
  by_cases hk : k < (jobsP l).length
  · rw [prs, List.getD_eq_getElem?_getD, List.getElem?_map, List.getElem?_eq_getElem hk] at hp
    obtain ⟨s, h1, rfl⟩ := List.mem_map.1 hp
    have := (jobs_all l h).1 _ (List.getElem_mem hk) s h1
    exact ⟨this.1, this.2.1, this.2.2.1, this.2.2.2⟩
  · rw [prs, List.getD_eq_getElem?_getD, List.getElem?_map, List.getElem?_eq_none (by omega)] at hp
    cases hp
theorem prs_jobs_length (l : List Int) : (prs (jobsP l)).length = (manyP l).toNat := by rw [prs_length, jobs_length]
def ws52 (L : List (List Int × Int)) : List S52 := L.map (fun x => (⟨x.1, x.2⟩ : S52))
theorem ws52_pr (L : List (List Int × Int)) : (ws52 L).map pr52 = L := by
  unfold ws52
  rw [List.map_map]
  exact List.map_id'' (fun _ => rfl) L
theorem play_f (l : List Int) (h : ∀ x ∈ l, (Lit.int .u16 x).wf = true) (ord : Bool) (ps : List Int) (hp : ps.length ≤ 20000) :
    locks_Play.f 6 (jobsP l) ord ps = some ((playsP 6 (prs (jobsP l)) ord ps).by_, ws52 (outP ord (prs (jobsP l)) (playsP 6 (prs (jobsP l)) ord ps).all), (playsP 6 (prs (jobsP l)) ord ps).done, 0) := by
  unfold locks_Play.f
  have hm := many_rng l
  rw [if_pos ⟨by rw [jobs_length]; omega, by have := (jobs_all l h).2; unfold total; omega⟩, playP_six (jobs_six l h) (by rw [prs_jobs_length]; omega) ps hp]
  rfl
theorem picks_l0 (m : Int) (hm : 2 ≤ m) (l : List Int) (hl : l.length ≤ 140737488351232) : ∀ (d i : Nat) (acc : List Int), d + i = 300 → acc.length ≤ i → ∃ r, Evt (fun k => turnspitlaw11_Picks.l0 k m l acc (i : Int)) r ∧ r.length ≤ 300
  | 0, i, acc, hi, ha => by
    obtain rfl : i = 300 := by omega
    refine ⟨acc, Evt.step (Evt.now acc) fun k => ?_, ha⟩
    rw [turnspitlaw11_Picks.l0]
    by_cases c : ((300 : Nat) : Int) < (l.length : Int)
    · rw [if_pos c, if_neg (by omega)]
    · rw [if_neg c]
  | d + 1, i, acc, hi, ha => by
    by_cases c : (i : Int) < (l.length : Int)
    · have hw : wrap64 ((i : Int) + 1) = ((i + 1 : Nat) : Int) := by unfold wrap64; omega
      obtain ⟨r, h1, h2⟩ := picks_l0 m hm l hl d (i + 1) (acc ++ [Int.tmod (wrap64 (rd l (i : Int))) m]) (by omega) (by simp; omega)
      refine ⟨r, Evt.step h1 fun k => ?_, h2⟩
      rw [turnspitlaw11_Picks.l0, if_pos c, if_pos (by omega), if_pos (by omega), if_neg (by omega), if_pos (by omega), hw]
    · exact ⟨acc, Evt.step (Evt.now acc) fun k => by rw [turnspitlaw11_Picks.l0, if_neg c], by omega⟩
theorem picks_f (m : Int) (hm : 2 ≤ m) (l : List Int) (hl : l.length ≤ 140737488351232) : ∃ r, Evt (fun k => turnspitlaw11_Picks.f k m l) r ∧ r.length ≤ 300 := picks_l0 m hm l hl 300 0 [] (by omega) (by simp)
theorem take_le_ {α : Type} (l : List α) (n : Nat) : (l.take n).length ≤ l.length := by rw [List.length_take]; omega
theorem stuck_f {ord : Bool} {jobs : List (List Pr)} {s : PS} (g : Gd ord jobs s) (hJ : Six jobs) (hm : jobs.length ≤ 64) : locks_Stuck.f (ws52 (outP ord jobs s.all)) = some ((stuckP (outP ord jobs s.all)).1, (stuckP (outP ord jobs s.all)).2) := by
  have hget : ∀ x ∈ ws52 (outP ord jobs s.all), ∃ k, k < jobs.length ∧ x = (⟨held ord jobs s k, if hasS s k < (scS ord jobs s k).length then (scS ord jobs s k).getD (hasS s k) 0 else -1⟩ : S52) := by
    intro x hx
    obtain ⟨y, h1, rfl⟩ := List.mem_map.1 hx
    obtain ⟨k, h2, h3⟩ := List.getElem_of_mem h1
    rw [outP_length] at h2
    refine ⟨k, h2, ?_⟩
    have := outP_getD (ord := ord) s k h2
    rw [List.getD_eq_getElem?_getD, List.getElem?_eq_getElem (by rw [outP_length]; exact h2)] at this
    rw [← h3, show (outP ord jobs s.all)[k] = _ from this]
  have hin : inAll (ws52 (outP ord jobs s.all)) = true ∧ holdsTotal (ws52 (outP ord jobs s.all)) ≤ 1000000 := by
    refine ⟨?_, ?_⟩
    · refine List.all_eq_true.2 fun x hx => ?_
      obtain ⟨k, hk, rfl⟩ := hget x hx
      rw [Bool.and_eq_true]
      refine ⟨decide_eq_true ?_, List.all_eq_true.2 fun y hy => decide_eq_true ?_⟩
      · have hv : -1 ≤ (if hasS s k < (scS ord jobs s k).length then (scS ord jobs s k).getD (hasS s k) 0 else -1) ∧ (if hasS s k < (scS ord jobs s k).length then (scS ord jobs s k).getD (hasS s k) 0 else -1) < 6 := by
          split
          · rename_i c
            have := sc_rng hJ (getD_mem_ _ _ 0 c)
            omega
          · omega
        exact ⟨Int.le_trans (by decide) hv.1, Int.le_trans (Int.le_of_lt hv.2) (by decide)⟩
      · have := held_rng hJ hy
        omega
    · unfold holdsTotal
      have : ∀ (L : List S52), (∀ x ∈ L, x.f0.length ≤ 2) → (L.map fun x => x.f0.length).sum ≤ 2 * L.length := by
        intro L
        induction L with
        | nil => intro _; simp
        | cons a t ih =>
          intro h
          have h1 := h a List.mem_cons_self
          have h2 := ih (fun x hx => h x (List.mem_cons_of_mem _ hx))
          rw [List.map_cons, List.sum_cons, List.length_cons]
          omega
      have h2 := this (ws52 (outP ord jobs s.all)) (fun x hx => by
        obtain ⟨k, hk, rfl⟩ := hget x hx
        exact Nat.le_trans (take_le_ _ _) (secAt_length _ _ _))
      have h3 : (ws52 (outP ord jobs s.all)).length = jobs.length := by unfold ws52; rw [List.length_map, outP_length]
      omega
  unfold locks_Stuck.f
  rw [ws52_pr, if_pos hin]
theorem ws_rd {ord : Bool} {jobs : List (List Pr)} (s : PS) (k : Nat) (hk : k < jobs.length) : rd_T52 (ws52 (outP ord jobs s.all)) (k : Int) = ⟨held ord jobs s k, if hasS s k < (scS ord jobs s k).length then (scS ord jobs s k).getD (hasS s k) 0 else -1⟩ := by
  have h := outP_getD (ord := ord) s k hk
  rw [rd_T52, Int.toNat_natCast, List.getD_eq_getElem?_getD]
  unfold ws52
  rw [List.getElem?_map]
  rw [List.getD_eq_getElem?_getD, List.getElem?_eq_getElem (by rw [outP_length]; exact hk)] at h
  rw [List.getElem?_eq_getElem (by rw [outP_length]; exact hk)]
  rw [show (outP ord jobs s.all)[k]'(by rw [outP_length]; exact hk) = _ from h]
  rfl
theorem ws_length {ord : Bool} {jobs : List (List Pr)} (s : PS) : (ws52 (outP ord jobs s.all)).length = jobs.length := by unfold ws52; rw [List.length_map, outP_length]

theorem wrap_succ (n : Nat) (h : n ≤ 1000000000) : wrap64 ((n : Int) + 1) = ((n + 1 : Nat) : Int) := by unfold wrap64; omega
theorem rdJ_ (J : List (List S55)) (k : Nat) : rd_L5 J (k : Int) = J.getD k [] := by rw [rd_L5, Int.toNat_natCast]
theorem prs_len (J : List (List S55)) (k : Nat) : ((prs J).getD k []).length = (J.getD k []).length := by
  rw [prs, List.getD_eq_getElem?_getD, List.getD_eq_getElem?_getD, List.getElem?_map]
  cases J[k]? <;> simp
theorem many_take (J : List (List S55)) : ∀ n, n ≤ J.length → sumTo (fun k => (J.getD k []).length) n = ((J.take n).flatten).length
  | 0, _ => by simp [sumTo]
  | n + 1, h => by
    rw [sumTo, many_take J n (by omega), take_snoc_ J n [] (by omega), List.flatten_append, List.length_append]
    simp
theorem many_eq (J : List (List S55)) : manyS (prs J) = J.flatten.length := by
  unfold manyS
  rw [prs_length, sumTo_congr _ (fun k _ => prs_len J k), many_take J J.length (Nat.le_refl _), List.take_length]
section
variable (J : List (List S55)) (ps : List Int) (M : Nat) (hJl : J.length ≤ 64) (hM : M ≤ 1000) (hps : ps.length ≤ 300)
include hJl hM
theorem l0_step (hMe : sumTo (fun k => (J.getD k []).length) J.length = M) (r : Bool) (h : Evt (fun q => turnspitlaw11_LocksEnds.l1 q true J ps (M : Int) 0) r) : ∀ (d i : Nat), d + i = J.length →
    Evt (fun q => turnspitlaw11_LocksEnds.l0 q true J ps ((sumTo (fun k => (J.getD k []).length) i : Nat) : Int) (i : Int)) r
  | 0, i, hi => by
    obtain rfl : i = J.length := by omega
    rw [hMe]
    exact Evt.step h fun q => by rw [turnspitlaw11_LocksEnds.l0, if_neg (by omega)]
  | d + 1, i, hi => by
    have hle : ∀ n, n ≤ J.length → sumTo (fun k => (J.getD k []).length) n ≤ M := by
      intro n
      induction hh : J.length - n generalizing n with
      | zero => intro hn; rw [show n = J.length by omega, hMe]; exact Nat.le_refl _
      | succ q ih => intro hn; exact Nat.le_trans (Nat.le_add_right _ _) (ih (n + 1) (by omega) (by omega))
    have h1 := hle i (by omega)
    have h2 := hle (i + 1) (by omega)
    rw [sumTo] at h2
    have e1 : wrap64 (((sumTo (fun k => (J.getD k []).length) i : Nat) : Int) + ((rd_L5 J (i : Int)).length : Int)) = ((sumTo (fun k => (J.getD k []).length) (i + 1) : Nat) : Int) := by
      rw [rdJ_, sumTo]; unfold wrap64; omega
    have e2 : wrap64 ((i : Int) + 1) = ((i + 1 : Nat) : Int) := by unfold wrap64; omega
    refine Evt.step (l0_step hMe r h d (i + 1) (by omega)) fun q => ?_
    rw [turnspitlaw11_LocksEnds.l0, if_pos (by omega), if_pos (by omega), e1, e2]
omit hM in
theorem l2_step (acc : List Int) (hacc : acc.length ≤ 1000000) (x : Nat) (hx : x ≤ 100000) (r : Bool) (h : Evt (fun q => turnspitlaw11_LocksEnds.l1 q true J (acc ++ roundL J.length) (M : Int) ((x + 1 : Nat) : Int)) r) : ∀ (d i : Nat), d + i = J.length →
    Evt (fun q => turnspitlaw11_LocksEnds.l2 q true J (acc ++ (roundL J.length).take i) (M : Int) (x : Int) (i : Int)) r
  | 0, i, hi => by
    obtain rfl : i = J.length := by omega
    have e : wrap64 ((x : Int) + 1) = ((x + 1 : Nat) : Int) := by unfold wrap64; omega
    have et : (roundL J.length).take J.length = roundL J.length := List.take_of_length_le (by unfold roundL; simp)
    rw [et]
    exact Evt.step h fun q => by rw [turnspitlaw11_LocksEnds.l2, if_neg (by omega), e]
  | d + 1, i, hi => by
    have e : wrap64 ((i : Int) + 1) = ((i + 1 : Nat) : Int) := by unfold wrap64; omega
    have hil : i < (roundL J.length).length := by unfold roundL; simp; omega
    have e2 : (roundL J.length).getD i 0 = (i : Int) := by
      unfold roundL
      rw [List.getD_eq_getElem?_getD, List.getElem?_map, List.getElem?_range (by omega)]; rfl
    have e3 := take_snoc_ (roundL J.length) i 0 hil
    rw [e2] at e3
    have := l2_step acc hacc x hx r h d (i + 1) (by omega)
    rw [e3, ← List.append_assoc] at this
    refine Evt.step this fun q => ?_
    rw [turnspitlaw11_LocksEnds.l2, if_pos (by omega), if_pos (by rw [List.length_append, List.length_take]; omega), e]
include hps
omit hJl hM hps in
theorem rounds_length : ∀ n, (roundsL J.length n).length = n * J.length
  | 0 => by simp [roundsL]
  | n + 1 => by rw [roundsL, List.length_append, rounds_length n]; unfold roundL; simp [Nat.succ_mul]
theorem l1_step (r : Bool) (h : Evt (fun q => turnspitlaw11_LocksEnds.l1 q true J (ps ++ roundsL J.length (3 * M)) (M : Int) ((3 * M : Nat) : Int)) r) : ∀ (d i : Nat), d + i = 3 * M →
    Evt (fun q => turnspitlaw11_LocksEnds.l1 q true J (ps ++ roundsL J.length i) (M : Int) (i : Int)) r
  | 0, i, hi => by
    obtain rfl : i = 3 * M := by omega
    exact h
  | d + 1, i, hi => by
    have e : wrap64 (3 * (M : Int)) = ((3 * M : Nat) : Int) := by unfold wrap64; omega
    have hl := rounds_length J i
    have hb : i * J.length ≤ 3000 * 64 := Nat.mul_le_mul (by omega) hJl
    have h2 := l2_step J M hJl (ps ++ roundsL J.length i) (by rw [List.length_append, hl]; omega) i (by omega) r (by
      rw [List.append_assoc]
      exact l1_step r h d (i + 1) (by omega)) J.length 0 (by omega)
    rw [List.take_zero, List.append_nil] at h2
    refine Evt.step h2 fun q => ?_
    rw [turnspitlaw11_LocksEnds.l1, if_pos (by rw [e]; omega)]; rfl
end
section
variable (J : List (List S55)) (M : Nat) (by_ done : List Int) (hJl : J.length ≤ 64) (hd : done.length ≤ 1000000) (h6 : by_.length = 6) (hlen : done.length = M) (hc : ∀ k : Nat, k < J.length → done.count (k : Int) = (J.getD k []).length)
include hJl hd h6 hlen hc
omit h6 hc in
theorem l5_step (kk : Nat) (hk : kk < J.length) (h : Evt (fun q => turnspitlaw11_LocksEnds.l4 q true J (M : Int) done 0 ((kk + 1 : Nat) : Int) by_) true) : ∀ (d j c : Nat), d + j = done.length → c + (done.drop j).count (kk : Int) = (J.getD kk []).length → c ≤ j →
    Evt (fun q => turnspitlaw11_LocksEnds.l5 q true J (M : Int) done 0 (kk : Int) (c : Int) (j : Int) by_) true
  | 0, j, c, hj, hcc, hcj => by
    have hj2 : done.length ≤ j := by clear hcc; omega
    have e : wrap64 ((kk : Int) + 1) = ((kk + 1 : Nat) : Int) := wrap_succ kk (by clear hcc; omega)
    rw [List.drop_eq_nil_of_le hj2, List.count_nil] at hcc
    have ec : (c : Int) = (((J.getD kk []).length : Nat) : Int) := congrArg (fun n : Nat => (n : Int)) hcc
    have q1 : ¬ (j : Int) < (done.length : Int) := by clear hcc ec; omega
    have q2 : 0 ≤ (kk : Int) := by clear hcc ec; omega
    have q3 : (kk : Int) < (J.length : Int) := by clear hcc ec; omega
    exact Evt.step h fun q => by rw [turnspitlaw11_LocksEnds.l5, if_neg q1, if_pos q2, if_pos q3, rdJ_, if_pos ec, e]
  | d + 1, j, c, hj, hcc, hcj => by
    have hjl : j < done.length := by clear hcc; omega
    have e1 : wrap64 ((j : Int) + 1) = ((j + 1 : Nat) : Int) := wrap_succ j (by clear hcc; omega)
    have e2 : wrap64 ((c : Int) + 1) = ((c + 1 : Nat) : Int) := wrap_succ c (by clear hcc; omega)
    have hrd : rd done (j : Int) = done[j] := by rw [rd, Int.toNat_natCast, List.getD_eq_getElem?_getD, List.getElem?_eq_getElem hjl]; rfl
    have q1 : (j : Int) < (done.length : Int) := by clear hcc; omega
    have q2 : 0 ≤ (j : Int) := by clear hcc; omega
    have r1 : d + (j + 1) = done.length := by clear hcc; omega
    rw [List.drop_eq_getElem_cons hjl, List.count_cons] at hcc
    by_cases ce : done[j] = (kk : Int)
    · rw [if_pos (beq_iff_eq.2 ce)] at hcc
      refine Evt.step (l5_step kk hk h d (j + 1) (c + 1) r1 (by rw [Nat.add_assoc, Nat.add_comm 1 _]; exact hcc) (Nat.succ_le_succ hcj)) fun q => ?_
      rw [turnspitlaw11_LocksEnds.l5, if_pos q1, if_pos q2, hrd, if_pos ce, e1, e2]
    · rw [if_neg (by simpa using ce)] at hcc
      refine Evt.step (l5_step kk hk h d (j + 1) c r1 hcc (Nat.le_succ_of_le hcj)) fun q => ?_
      rw [turnspitlaw11_LocksEnds.l5, if_pos q1, if_pos q2, hrd, if_neg ce, e1]
theorem l4_step : ∀ (d i : Nat), d + i = J.length → Evt (fun q => turnspitlaw11_LocksEnds.l4 q true J (M : Int) done 0 (i : Int) by_) true
  | 0, i, hi => Evt.step (Evt.now true) fun q => by rw [turnspitlaw11_LocksEnds.l4, if_neg (by omega), if_pos rfl, if_pos rfl, if_pos (by omega), h6]; rfl
  | d + 1, i, hi => by
    refine Evt.step (l5_step J M by_ done hJl hd hlen i (by omega) (l4_step d (i + 1) (by omega)) done.length 0 0 (by omega) (by rw [List.drop_zero, hc i (by omega)]; exact Nat.zero_add _) (Nat.le_refl _)) fun q => ?_
    rw [turnspitlaw11_LocksEnds.l4, if_pos (by omega)]; rfl
theorem l3_step (hb : ∀ x : Nat, x < 6 → by_.getD x 0 = -1) : ∀ (d i : Nat), d + i = 6 → Evt (fun q => turnspitlaw11_LocksEnds.l3 q true J (M : Int) done 0 (i : Int) by_) true
  | 0, i, hi => Evt.step (l4_step J M by_ done hJl hd h6 hlen hc J.length 0 (by omega)) fun q => by rw [turnspitlaw11_LocksEnds.l3, if_neg (by omega)]; rfl
  | d + 1, i, hi => by
    have e1 : wrap64 ((i : Int) + 1) = ((i + 1 : Nat) : Int) := wrap_succ i (by omega)
    have hrd : rd by_ (i : Int) = -1 := by rw [rd, Int.toNat_natCast]; exact hb i (by omega)
    refine Evt.step (l3_step hb d (i + 1) (by omega)) fun q => ?_
    rw [turnspitlaw11_LocksEnds.l3, if_pos (by omega), if_pos (by omega), if_pos hrd, e1]
end
theorem ends_holds (l0 l1 : List Int) (h0 : ∀ x ∈ l0, (Lit.int .u16 x).wf = true) (h1 : l1.length ≤ 140737488351232) : ∃ k, turnspitlaw11_LocksEnds.f k l0 l1 = some true := by
  refine Evt.get ?_
  have hm := many_rng l0
  have hJl : (jobsP l0).length ≤ 64 := by rw [jobs_length]; omega
  obtain ⟨ps, hp, hpl⟩ := picks_f (manyP l0) hm.1 l1 h1
  have hJ := jobs_six l0 h0
  have hM := many_eq (jobsP l0)
  have hMb := (jobs_all l0 h0).2
  have hMe : sumTo (fun k => ((jobsP l0).getD k []).length) (jobsP l0).length = manyS (prs (jobsP l0)) := by
    rw [hM, many_take _ _ (Nat.le_refl _), List.take_length]
  have g0 := plays_gd (ord := true) hJ ps
  have hfin := g0.ends hJ
  have hall : playsP 6 (prs (jobsP l0)) true (ps ++ roundsL (jobsP l0).length (3 * manyS (prs (jobsP l0)))) = (roundsL (prs (jobsP l0)).length (3 * manyS (prs (jobsP l0)))).foldl (stepP true (prs (jobsP l0))) (playsP 6 (prs (jobsP l0)) true ps) := by
    unfold playsP
    rw [List.foldl_append, prs_length]
  have g : Gd true (prs (jobsP l0)) (playsP 6 (prs (jobsP l0)) true (ps ++ roundsL (jobsP l0).length (3 * manyS (prs (jobsP l0))))) := plays_gd hJ _
  have dn : Dn (prs (jobsP l0)) (playsP 6 (prs (jobsP l0)) true (ps ++ roundsL (jobsP l0).length (3 * manyS (prs (jobsP l0))))) := Dn.plays hJ _ _ (Gd.start true _) (Dn.start _)
  rw [← hall] at hfin
  have hrl := rounds_length (jobsP l0) (3 * manyS (prs (jobsP l0)))
  have hpick : (ps ++ roundsL (jobsP l0).length (3 * manyS (prs (jobsP l0)))).length ≤ 20000 := by
    rw [List.length_append, hrl, hM]
    have : 3 * (jobsP l0).flatten.length * (jobsP l0).length ≤ 57 * 64 := Nat.mul_le_mul (by omega) hJl
    omega
  have hdone : (playsP 6 (prs (jobsP l0)) true (ps ++ roundsL (jobsP l0).length (3 * manyS (prs (jobsP l0))))).done.length = manyS (prs (jobsP l0)) := by
    rw [dn.len]
    unfold manyS
    exact sumTo_congr _ fun k hk => g.fin_at hfin k hk
  have hcnt : ∀ k : Nat, k < (jobsP l0).length → (playsP 6 (prs (jobsP l0)) true (ps ++ roundsL (jobsP l0).length (3 * manyS (prs (jobsP l0))))).done.count (k : Int) = ((jobsP l0).getD k []).length := by
    intro k hk
    rw [dn.cnt k (by rw [prs_length]; exact hk), g.fin_at hfin k (by rw [prs_length]; exact hk), prs_len]
  have hby := g.fin_by hfin
  have h6 := g.by6
  have hplay := play_f l0 h0 true _ hpick
  unfold turnspitlaw11_LocksEnds.f
  have e1 : turnspitlaw11_awake.f = some true := rfl
  have e2 : turnspitlaw11_Jobs.f l0 = some (jobsP l0) := by unfold turnspitlaw11_Jobs.f; rw [if_pos (u16_of h0)]
  rw [e1, e2]
  simp only [Option.bind_some, if_true]
  rw [show (((jobsP l0).length : Nat) : Int) = manyP l0 by rw [jobs_length]; omega]
  refine Evt.bind hp ?_
  refine l0_step (jobsP l0) ps (manyS (prs (jobsP l0))) hJl (by omega) hMe true ?_ (jobsP l0).length 0 (by omega)
  have hend : Evt (fun q => turnspitlaw11_LocksEnds.l1 q true (jobsP l0) (ps ++ roundsL (jobsP l0).length (3 * manyS (prs (jobsP l0)))) ((manyS (prs (jobsP l0)) : Nat) : Int) ((3 * manyS (prs (jobsP l0)) : Nat) : Int)) true := by
    refine Evt.step (l3_step (jobsP l0) (manyS (prs (jobsP l0))) _ _ hJl (by rw [hdone]; omega) h6 hdone hcnt hby 6 0 (by omega)) fun q => ?_
    have e : wrap64 (3 * ((manyS (prs (jobsP l0)) : Nat) : Int)) = ((3 * manyS (prs (jobsP l0)) : Nat) : Int) := by unfold wrap64; omega
    rw [turnspitlaw11_LocksEnds.l1, if_neg (by rw [e]; omega), hplay, Option.bind_some]
    rfl
  have := l1_step (jobsP l0) ps (manyS (prs (jobsP l0))) hJl (by omega) hpl true hend (3 * manyS (prs (jobsP l0))) 0 (by omega)
  rw [roundsL, List.append_nil] at this
  exact this
end Go.Proofs.Ytiidjnnagbfokaa.QLocksEnds
namespace Go.Proofs.Ytiidjnnagbfokaa.Pure
open Go.RowKit Go.Proofs.Ytiidjnnagbfokaa.QLocksEnds Go.Proofs.YtiidjnnagbfokaaW.PrintWords Go.Proofs.YtiidjnnagbfokaaW.PrintLast
theorem LocksEnds : turnspitlaw11_LocksEnds.Pure := by
  intro l0 l1 _ _ h0 _ h1 _
  exact ends_holds l0 l1 h0 (by omega)
end Go.Proofs.Ytiidjnnagbfokaa.Pure
