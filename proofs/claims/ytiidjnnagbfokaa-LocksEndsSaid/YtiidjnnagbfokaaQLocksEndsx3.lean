/- Go functions of the program, each as a function of Lean with the proof that the Go text comes to its answers; no condition. Written by a program of this session. -/
import Derived.Test.YtiidjnnagbfokaaQLocksEndsx0
import Derived.Test.YtiidjnnagbfokaaQLocksEndsx1
import Derived.Test.YtiidjnnagbfokaaQLocksEndsx2
namespace Go.Proofs.Ytiidjnnagbfokaa.QLocksEnds
open Go.RowKit Go.Proofs.YtiidjnnagbfokaaW.PrintWords Go.Proofs.YtiidjnnagbfokaaW.PrintLast Go.Proofs.YtiidjnnagbfokaaW.PrintMore
attribute [local go_sem] max2_int min2_int max_two min_two max_three min_three max_four min_four   -- for this text's walks alone
set_option linter.unusedVariables false
set_option linter.unusedSimpArgs false

/-! ### locks_Play: function 23 -/
theorem R_apart2_ {w : World} {base : Nat} {v u : Value} {xs : List Int} (h : Kd.R (Kd.int .i64) 3 w base (fun _ => True) v xs) (hu : ∀ k, u.ownBlock = some k → some k ≠ v.ownBlock) : Kd.R (Kd.int .i64) 3 w base (fun k_ => some k_ ≠ u.ownBlock) v xs :=
  Kd.R_mono (Kd.R_tight rfl h) (fun k hk e => hu k e.symm hk)
set_option maxHeartbeats 4000000 in
set_option maxRecDepth 100000 in
/-- slices.Compact of two numbers in a block of their own -/
theorem compact2_ne (g : Nat) (a b : Int) (w : World) (hg : w.heap[g]? = some (.cells #[.int .i64 a, .int .i64 b] 3 (0, 0))) (hne : a ≠ b) :
    Calls Try.prog 42 #[.slice (some ⟨g, 0, none⟩) 2 2] w fun e w' => e = .returned (.slice (some ⟨g, 0, none⟩) 2 2) ∧ ∃ n, w' = w.drewN n := by
  have c0 : w.cell? ⟨g, 0, none⟩ = some (.int .i64 a) := by rw [blk_cell hg]; rfl
  have c1 : w.cell? ⟨g, 1, none⟩ = some (.int .i64 b) := by rw [blk_cell hg]; rfl
  have t1 : ((b : Int) == a) = false := by simp; exact Ne.symm hne
  clear hg hne
  go_enter Try.func42, Try.ntmps42
  go_wp2
  go_loopw [3] (fun i wr => ∃ k : Nat, 1 ≤ k ∧ k ≤ 2 ∧ i = .int .i64 k ∧ ∃ m, wr = w.drewN m) (fun i _ => 2 - (intOf i).toNat)
  case atStart => exact ⟨1, by omega, by omega, rfl, 0, rfl⟩
  case round =>
    obtain ⟨k, hk1, hk2, rfl, m, rfl⟩ := hrel
    by_cases h1 : k = 1
    · subst h1
      go_wp2
      go_quiet (fail)
      go_wp2
      exact ⟨⟨2, by omega, by omega, rfl, _, rfl⟩, by simp [intOf]⟩
    · obtain rfl : k = 2 := by omega
      go_wp2
      go_ret
      exact ⟨rfl, m, rfl⟩

set_option maxHeartbeats 4000000 in
set_option maxRecDepth 100000 in
theorem compact2_eq (g : Nat) (a : Int) (w : World) (hg : w.heap[g]? = some (.cells #[.int .i64 a, .int .i64 a] 3 (0, 0))) :
    Calls Try.prog 42 #[.slice (some ⟨g, 0, none⟩) 2 2] w fun e w' => e = .returned (.slice (some ⟨g, 0, none⟩) 1 2) ∧ ∃ n, w' = (w.drewN n).setCell ⟨g, 1, none⟩ (.int .i64 0) := by
  have c0 : w.cell? ⟨g, 0, none⟩ = some (.int .i64 a) := by rw [blk_cell hg]; rfl
  have c1 : w.cell? ⟨g, 1, none⟩ = some (.int .i64 a) := by rw [blk_cell hg]; rfl
  have f1 : w.frozen? ⟨g, 1, none⟩ = false := blk_frozen hg 1
  have HG := Aside0.mk hg
  clear hg
  go_enter Try.func42, Try.ntmps42
  go_wp2
  go_loopw [3] (fun i wr => i = .int .i64 1 ∧ w = wr) (fun _ _ => 0)
  case atStart => exact ⟨rfl, rfl⟩
  case round =>
    obtain ⟨rfl, rfl⟩ := hrel
    go_wp2
    go_quiet (fail)
    go_wp2
    go_loopw [3, 5] (fun k i wr => k = .int .i64 1 ∧ i = .int .i64 1 ∧ w.drewN nq = wr) (fun _ _ _ => 0)
    case atStart => exact ⟨rfl, rfl, rfl⟩
    case round =>
      obtain ⟨rfl, rfl, rfl⟩ := hrel
      have k0 : ∀ j, j < 1 → ((w.drewN nq).cell? ⟨g, 1 + j, none⟩).isSome = true := by
        intro j hj
        obtain rfl : j = 0 := by omega
        rw [show (w.drewN nq).cell? ⟨g, 1 + 0, none⟩ = some (.int .i64 a) from c1]; rfl
      have k1 : ∀ j, j < 1 → (w.drewN nq).frozen? ⟨g, 1 + j, none⟩ = false := by
        intro j hj
        obtain rfl : j = 0 := by omega
        exact f1
      have hcl : ∀ ty, (Builtin.clear_ #[22] ty #[.slice (some ⟨g, 1, none⟩) 1 1]).run Try.prog (w.drewN nq) = .ok (.tuple #[]) ((w.drewN nq).setCell ⟨g, 1, none⟩ (.int .i64 0)) :=
        fun ty => Lib.run_clear_slice (P := Try.prog) (w.drewN nq) 22 3 ty (.int .i64 0) Try.underlying22 (fun _ => by kernel_rfl) rfl rfl g 1 1 1 (by omega) k0 k1
      clear k0 k1
      go_wp2
      go_ret
      exact ⟨rfl, nq, rfl⟩
open Go.Proofs.Ytiidjnnagbfokaa.Lk
set_option maxHeartbeats 4000000 in
set_option maxRecDepth 100000 in
/-- locks.one.section, where no section is left -/
theorem section_none (B off : Nat) (JA : Option Addr) (n c : Nat) (ord : Bool) (w : World) (c0 : w.cell? ⟨B, off, none⟩ = some (.slice JA n c)) (c1 : w.cell? ⟨B, off + 1, none⟩ = some (.int .i64 n)) :
    Calls Try.prog 36 #[.pointer (some ⟨B, off, none⟩), .bool ord] w fun e w' => e = .returned (.slice none 0 0) ∧ Drawn0 w w' := by
  go_enter Try.func36, Try.ntmps36
  go_wp2
  go_quiet (fail)
  go_wp2
  go_ret
  exact ⟨rfl, by repeat (first | exact Drawn0.refl _ | apply Drawn0.step)⟩
set_option maxHeartbeats 4000000 in
set_option maxRecDepth 100000 in
theorem section_some (B off : Nat) (ad : Addr) (n c k : Nat) (x y : Int) (ord : Bool) (w : World) (hk : k < n) (hn : n ≤ 1000000)
    (c0 : w.cell? ⟨B, off, none⟩ = some (.slice (some ad) n c)) (c1 : w.cell? ⟨B, off + 1, none⟩ = some (.int .i64 k))
    (j0 : w.cell? (ad.add (k * 2)) = some (.int .i64 x)) (j1 : w.cell? (ad.add (k * 2 + 1)) = some (.int .i64 y)) :
    Calls Try.prog 36 #[.pointer (some ⟨B, off, none⟩), .bool ord] w fun e w' => ∃ v0_ : Value, e = .returned v0_ ∧ Kd.R (Kd.int .i64) 3 w' w.heap.size (fun _ => True) v0_ (secOf x y ord) ∧ Below w.heap.size w w' := by
  have hne : ((k : Int) == (n : Int)) = false := by simp; omega
  have j1' : w.cell? ⟨(ad.add (k * 2)).block, (ad.add (k * 2)).off + 1, none⟩ = some (.int .i64 y) := by rw [← add_field ad (k * 2) 1 (by omega)]; exact j1
  clear j1
  obtain ⟨a, ha⟩ : ∃ a, (if ord then mn x y else x) = a := ⟨_, rfl⟩
  obtain ⟨b, hb⟩ : ∃ b, (if ord then mx x y else y) = b := ⟨_, rfl⟩
  have HS := Aside0.mk (show secOf x y ord = if a = b then [a] else [a, b] by unfold secOf; rw [ha, hb])
  have fin : ∀ (W : World) (g : Nat), Below w.heap.size w W → w.heap.size ≤ g → W.heap[g]? = some (.cells #[.int .i64 a, .int .i64 b] 3 (0, 0)) →
      Calls Try.prog 42 #[.slice (some ⟨g, 0, none⟩) 2 2] W fun e w' => ∃ v0_ : Value, e = .returned v0_ ∧ Kd.R (Kd.int .i64) 3 w' w.heap.size (fun _ => True) v0_ (secOf x y ord) ∧ Below w.heap.size w w' := by
    intro W g hB hg hb0
    rw [HS.out]
    by_cases e : a = b
    · subst e
      refine (compact2_eq g a W hb0).mono ?_
      rintro e w' ⟨rfl, m, rfl⟩
      refine ⟨_, rfl, ?_, (pw_below_drewN hB m).setCell (p := ⟨g, 1, none⟩) hg _⟩
      rw [if_pos rfl]
      have hs := blk_set (u := .int .i64 0) (i := 1) (blk_drewN hb0 m)
      exact Kd.R_of_own (enc := Value.int .i64) (h1 := fun _ => rfl) ⟨by simp [encs], .inr ⟨g, 2, _, rfl, hg, hs, by simp, by unfold maxLen; simp, by simp, by simp [encs]⟩⟩ (fun _ _ => trivial)
    · refine (compact2_ne g a b W hb0 e).mono ?_
      rintro e' w' ⟨rfl, m, rfl⟩
      refine ⟨_, rfl, ?_, pw_below_drewN hB m⟩
      rw [if_neg e]
      exact Kd.R_of_own (enc := Value.int .i64) (h1 := fun _ => rfl) ⟨by simp [encs], .inr ⟨g, 2, _, rfl, hg, blk_drewN hb0 m, by simp, by unfold maxLen; simp, by simp, by simp [encs]⟩⟩ (fun _ _ => trivial)
  have HFIN := Aside0.mk fin
  clear fin
  have HB := Aside0.mk (Below.refl w.heap.size w)
  cases ord with
  | false =>
    simp only [Bool.false_eq_true, if_false] at ha hb
    subst ha
    subst hb
    go_enter Try.func36, Try.ntmps36
    go_wp2
    go_quiet (fail)
    go_wp2
    go_quiet (fail)
    go_wp2_with (go_at_call 42; refine (HFIN.out _ _ ((pw_below_drewN (Below.refl _ w) _).alloc (Nat.le_refl _) _) (Nat.le_refl _) (blk_new _ _)).mono ?_; rintro e w' ⟨v0_, rfl, hr, hb⟩)
    go_ret
    exact ⟨_, rfl, hr, hb⟩
  | true =>
    simp only [if_true] at ha hb
    go_enter Try.func36, Try.ntmps36
    go_wp2
    go_quiet (fail)
    go_wp2
    go_quiet (fail)
    go_wp2_with (first | (go_at_call 17; (with_reducible refine (locks_Pair.calls x y a b _ (by unfold locks_Pair.f; rw [← ha, ← hb])).mono ?_); rintro e w1 ⟨rfl, hb1⟩; have HB1 := Aside0.mk hb1; clear hb1) | fail)
    refine (HFIN.out _ _ (((pw_below_drewN (Below.refl w.heap.size w) _).trans HB1.out).alloc HB1.out.size _) HB1.out.size (blk_new _ _)).mono ?_
    rintro e w' ⟨v0_, rfl, hr, hb⟩
    go_wp2
    go_ret
    exact ⟨_, rfl, hr, hb⟩
-- what Take, Give, New and right come to
open Go.Proofs.Ytiidjnnagbfokaa.Lk
def pr55 (s : S55) : Pr := (s.f0, s.f1)
def prs (jobs : List (List S55)) : List (List Pr) := jobs.map (fun l => l.map pr55)
theorem prs_length (jobs : List (List S55)) : (prs jobs).length = jobs.length := by simp [prs]
theorem prs_getD (jobs : List (List S55)) (k : Nat) : (prs jobs).getD k [] = (rd_L5 jobs k).map pr55 := by
  simp only [prs, rd_L5, List.getD_eq_getElem?_getD, List.getElem?_map, Int.toNat_natCast]
  cases jobs[k]? <;> rfl
theorem prs_flatten (jobs : List (List S55)) : (prs jobs).flatten = jobs.flatten.map pr55 := by simp [prs, List.map_flatten]
theorem pr55_getD (l : List S55) (k : Nat) : (l.map pr55).getD k (0, 0) = ((rd_T55 l k).f0, (rd_T55 l k).f1) := by
  simp only [rd_T55, List.getD_eq_getElem?_getD, List.getElem?_map, Int.toNat_natCast]
  cases l[k]? <;> rfl
theorem take_f (b : List Int) (x who : Int) (h : b.length ≤ 65) : locks_Take.f b x who = some (takeP b x who) := by
  unfold locks_Take.f locks_odd.f takeP
  by_cases c0 : x < 0
  · rw [if_pos c0, if_pos (Or.inl c0)]; rfl
  rw [if_neg c0]
  by_cases c1 : x ≥ (b.length : Int)
  · rw [if_pos c1, if_pos (Or.inr (Or.inl c1))]; rfl
  rw [if_neg c1]
  by_cases c2 : who < 0
  · rw [if_pos (Or.inr (Or.inr c2)), decide_eq_true c2]; rfl
  have c5 : ¬ (x < 0 ∨ x ≥ (b.length : Int) ∨ who < 0) := by omega
  rw [if_neg c5, decide_eq_false c2, Option.bind_some, if_neg (by simp), if_pos (show 0 ≤ x by omega), if_pos (show x < (b.length : Int) by omega)]
  unfold rd
  by_cases c3 : b.getD x.toNat 0 = who
  · rw [if_pos c3, if_pos c3]
  rw [if_neg c3, if_neg c3]
  by_cases c4 : b.getD x.toNat 0 ≥ 0
  · rw [if_pos c4, if_pos c4]
  rw [if_neg c4, if_neg c4]
  unfold locks_with.f slices_Clone_int_int.f
  rw [if_pos (by omega), Option.bind_some, if_pos (show 0 ≤ x by omega), if_pos (show x < (b.length : Int) by omega)]; rfl
theorem give_f (b : List Int) (x who : Int) (h : b.length ≤ 65) : locks_Give.f b x who = some (giveP b x who) := by
  unfold locks_Give.f locks_odd.f giveP
  by_cases c0 : x < 0
  · rw [if_pos c0, if_pos (Or.inl c0)]; rfl
  rw [if_neg c0]
  by_cases c1 : x ≥ (b.length : Int)
  · rw [if_pos c1, if_pos (Or.inr (Or.inl c1))]; rfl
  rw [if_neg c1]
  by_cases c2 : who < 0
  · rw [if_pos (Or.inr (Or.inr c2)), decide_eq_true c2]; rfl
  have c5 : ¬ (x < 0 ∨ x ≥ (b.length : Int) ∨ who < 0) := by omega
  rw [if_neg c5, decide_eq_false c2, Option.bind_some, if_neg (by simp), if_pos (show 0 ≤ x by omega), if_pos (show x < (b.length : Int) by omega)]
  unfold rd
  by_cases c3 : b.getD x.toNat 0 = who
  · rw [if_pos c3, if_pos c3]
    unfold locks_with.f slices_Clone_int_int.f
    rw [if_pos (by omega), Option.bind_some, if_pos (show 0 ≤ x by omega), if_pos (show x < (b.length : Int) by omega)]; rfl
  · rw [if_neg c3, if_neg c3]
theorem new_f (n : Int) : locks_New.f n = some (if n < 0 ∨ n > 65 then [] else List.replicate n.toNat (-1), if n < 0 ∨ n > 65 then 1 else 0) := by
  unfold locks_New.f
  by_cases c0 : n < 0
  · rw [if_pos c0, if_pos (Or.inl c0), if_pos (Or.inl c0)]
  rw [if_neg c0]
  by_cases c1 : n > 65
  · rw [if_pos c1, if_pos (Or.inr c1), if_pos (Or.inr c1)]
  rw [if_neg c1, if_neg (by omega), if_neg (by omega)]
  unfold slices_Repeat_int_int.f
  rw [if_pos ⟨rfl, by omega, by omega⟩]; rfl
/-- How many sections these are -/
def total (jobs : List (List S55)) : Nat := jobs.flatten.length
theorem concat_l1 (jobs : List (List S55)) (h : total jobs ≤ 1000000) (hj : jobs.length ≤ 1000000) : ∀ (d i : Nat), d + i = jobs.length → (jobs.take i).flatten.length ≤ 1000000 → slices_Concat_2_int_2_int.l1 (d + 1) (jobs.take i).flatten jobs (jobs.length : Int) i = some jobs.flatten
  | 0, i, hi, hl => by
    rw [slices_Concat_2_int_2_int.l1, if_neg (by omega), List.take_of_length_le (by omega)]
  | d + 1, i, hi, hl => by
    have hr : rd_L5 jobs (i : Int) = jobs.getD i [] := by simp [rd_L5]
    have hs : (jobs.take (i + 1)).flatten = (jobs.take i).flatten ++ rd_L5 jobs (i : Int) := by
      rw [take_snoc_ jobs i [] (by omega), List.flatten_append, hr]; simp
    have hle : (jobs.take (i + 1)).flatten.length ≤ 1000000 := by
      have h2 : jobs.flatten = (jobs.take (i + 1)).flatten ++ (jobs.drop (i + 1)).flatten := by rw [← List.flatten_append, List.take_append_drop]
      have h3 := congrArg List.length h2
      rw [List.length_append] at h3
      unfold total at h
      omega
    have hl2 := congrArg List.length hs
    rw [List.length_append] at hl2
    have hw : wrap64 ((i : Int) + 1) = ((i + 1 : Nat) : Int) := by unfold wrap64; omega
    rw [slices_Concat_2_int_2_int.l1, if_pos (by omega), if_pos (by omega), if_pos (by omega), if_pos (by omega), ← hs, hw]
    exact concat_l1 jobs h hj d (i + 1) (by omega) hle
theorem concat_l0 (jobs : List (List S55)) (h : total jobs ≤ 1000000) (hj : jobs.length ≤ 1000000) : ∀ (d i : Nat), d + i = jobs.length → slices_Concat_2_int_2_int.l0 (d + jobs.length + 2) jobs ((jobs.take i).flatten.length : Int) jobs (jobs.length : Int) i = some jobs.flatten
  | 0, i, hi => by
    have hg : slices_Grow_2_int_2_int.f ([] : List S55) ((jobs.take i).flatten.length : Int) = some [] := by
      rw [List.take_of_length_le (by omega)]
      unfold slices_Grow_2_int_2_int.f
      unfold total at h
      rw [if_pos ⟨rfl, by omega, by omega⟩]
    rw [slices_Concat_2_int_2_int.l0, if_neg (by omega), hg, Option.bind_some, show 0 + jobs.length + 1 = jobs.length + 1 by omega]
    exact concat_l1 jobs h hj jobs.length 0 (by omega) (by simp)
  | d + 1, i, hi => by
    have hr : rd_L5 jobs (i : Int) = jobs.getD i [] := by simp [rd_L5]
    have hs : (jobs.take (i + 1)).flatten = (jobs.take i).flatten ++ rd_L5 jobs (i : Int) := by
      rw [take_snoc_ jobs i [] (by omega), List.flatten_append, hr]; simp
    have hle : (jobs.take (i + 1)).flatten.length ≤ 1000000 := by
      have h2 : jobs.flatten = (jobs.take (i + 1)).flatten ++ (jobs.drop (i + 1)).flatten := by rw [← List.flatten_append, List.take_append_drop]
      have h3 := congrArg List.length h2
      rw [List.length_append] at h3
      unfold total at h
      omega
    have hl2 := congrArg List.length hs
    rw [List.length_append] at hl2
    have hw : wrap64 ((i : Int) + 1) = ((i + 1 : Nat) : Int) := by unfold wrap64; omega
    have hw2 : wrap64 (((jobs.take i).flatten.length : Int) + ((rd_L5 jobs (i : Int)).length : Int)) = ((jobs.take (i + 1)).flatten.length : Int) := by unfold wrap64; omega
    rw [show d + 1 + jobs.length + 2 = (d + jobs.length + 2) + 1 by omega, slices_Concat_2_int_2_int.l0, if_pos (by omega), if_pos (by omega), if_pos (by omega), hw2, if_neg (by omega), hw]
    exact concat_l0 jobs h hj d (i + 1) (by omega)
theorem right_l0 (n : Int) (l : List S55) (h : l.length ≤ 1000000) : ∀ (d i : Nat), d + i = l.length → locks_right.l0 (d + 1) n l (l.length : Int) i = some ((l.drop i).all fun p => decide (0 ≤ mn p.f0 p.f1 ∧ mx p.f0 p.f1 < n))
  | 0, i, hi => by
    rw [locks_right.l0, if_neg (by omega), List.drop_eq_nil_of_le (by omega)]; rfl
  | d + 1, i, hi => by
    have hw : wrap64 ((i : Int) + 1) = ((i + 1 : Nat) : Int) := by unfold wrap64; omega
    have hd : l.drop i = rd_T55 l (i : Int) :: l.drop (i + 1) := by
      rw [List.drop_eq_getElem_cons (by omega), rd_T55, Int.toNat_natCast, List.getD_eq_getElem?_getD, List.getElem?_eq_getElem (by omega)]; rfl
    rw [locks_right.l0, if_pos (by omega), if_pos (by omega), if_pos (by omega), locks_Pair.f, Option.bind_some, hd, List.all_cons]
    by_cases c1 : mn (rd_T55 l (i : Int)).f0 (rd_T55 l (i : Int)).f1 < 0
    · rw [if_pos c1, decide_eq_false (by omega)]; rfl
    rw [if_neg c1]
    by_cases c2 : mx (rd_T55 l (i : Int)).f0 (rd_T55 l (i : Int)).f1 ≥ n
    · rw [if_pos c2, decide_eq_false (by omega)]; rfl
    rw [if_neg c2, hw, decide_eq_true ⟨by omega, by omega⟩, Bool.true_and]
    exact right_l0 n l h d (i + 1) (by omega)
theorem up_ {α : Type} {f : Nat → Option α} (h : ∀ k, LeO (f k) (f (k + 1))) : ∀ m k r, f k = some r → f (k + m) = some r
  | 0, _, _, e => e
  | m + 1, k, r, e => h (k + m) r (up_ h m k r e)
theorem right_f (n : Int) (jobs : List (List S55)) (h : total jobs ≤ 1000000) (hj : jobs.length ≤ 1000000) : ∃ k, locks_right.f k n jobs = some (rightP n (prs jobs)) := by
  have hc : slices_Concat_2_int_2_int.f (jobs.length + jobs.length + 2) jobs = some jobs.flatten := concat_l0 jobs h hj jobs.length 0 (by omega)
  have hr : locks_right.l0 (jobs.flatten.length + 1) n jobs.flatten (jobs.flatten.length : Int) 0 = some (rightP n (prs jobs)) := by
    have := right_l0 n jobs.flatten h jobs.flatten.length 0 (by omega)
    rw [Int.natCast_zero] at this
    rw [this, rightP, prs_flatten, List.all_map]; rfl
  refine ⟨(jobs.length + jobs.length + 2) + (jobs.flatten.length + 1), ?_⟩
  have hc2 := up_ (f := fun k => slices_Concat_2_int_2_int.f k jobs) (fun k => slices_Concat_2_int_2_int.mono jobs k) (jobs.flatten.length + 1) _ _ hc
  have hr2 := up_ (f := fun k => locks_right.l0 k n jobs.flatten (jobs.flatten.length : Int) 0) (fun k => locks_right.mono_l k _ _ _ _) (jobs.length + jobs.length + 2) _ _ hr
  rw [locks_right.f, hc2, Option.bind_some, Nat.add_comm]
  exact hr2
/-- Play's frame at its label: which slots hold what; the others hold anything -/
inductive Fr (v0 v1 v2 v3 v8 v12 v14 v17 v18 : Value) : Act → Prop
  | mk (u4 u5 u6 u7 u9 u10 u11 u13 u15 u16 u19 u20 u21 u22 u23 u24 u25 u26 u27 u28 u29 u30 u31 u32 u33 u34 u35 u36 u37 u38 u39 u40 u41 u42 u43 u44 u45 u46 u47 u48 u49 u50 u51 u52 u53 u54 u55 u56 u57 u58 u59 u60 u61 u62 u63 u64 u65 u66 u67 u68 u69 u70 u71 u72 u73 u74 u75 u76 u77 u78 u79 u80 u81 u82 u83 u84 u85 u86 u87 u88 u89 u90 u91 u92 u93 u94 u95 u96 u97 u98 u99 u100 u101 u102 u103 u104 u105 u106 u107 u108 u109 u110 u111 u112 u113 u114 u115 u116 u117 u118 u119 u120 u121 u122 u123 u124 u125 u126 u127 u128 u129 u130 u131 u132 u133 u134 u135 u136 u137 u138 u139 u140 u141 u142 u143 u144 u145 u146 u147 u148 u149 u150 u151 u152 u153 u154 u155 u156 u157 u158 u159 u160 u161 u162 u163 u164 u165 u166 u167 u168 u169 u170 u171 u172 u173 u174 u175 u176 u177 u178 u179 u180 u181 u182 u183 u184 u185 u186 u187 u188 u189 u190 u191 u192 u193 u194 u195 u196 u197 u198 u199 u200 u201 u202 u203 u204 u205 u206 : Value) : Fr v0 v1 v2 v3 v8 v12 v14 v17 v18 { tmps := #[v0, v1, v2, v3, u4, u5, u6, u7, v8, u9, u10, u11, v12, u13, v14, u15, u16, v17, v18, u19, u20, u21, u22, u23, u24, u25, u26, u27, u28, u29, u30, u31, u32, u33, u34, u35, u36, u37, u38, u39, u40, u41, u42, u43, u44, u45, u46, u47, u48, u49, u50, u51, u52, u53, u54, u55, u56, u57, u58, u59, u60, u61, u62, u63, u64, u65, u66, u67, u68, u69, u70, u71, u72, u73, u74, u75, u76, u77, u78, u79, u80, u81, u82, u83, u84, u85, u86, u87, u88, u89, u90, u91, u92, u93, u94, u95, u96, u97, u98, u99, u100, u101, u102, u103, u104, u105, u106, u107, u108, u109, u110, u111, u112, u113, u114, u115, u116, u117, u118, u119, u120, u121, u122, u123, u124, u125, u126, u127, u128, u129, u130, u131, u132, u133, u134, u135, u136, u137, u138, u139, u140, u141, u142, u143, u144, u145, u146, u147, u148, u149, u150, u151, u152, u153, u154, u155, u156, u157, u158, u159, u160, u161, u162, u163, u164, u165, u166, u167, u168, u169, u170, u171, u172, u173, u174, u175, u176, u177, u178, u179, u180, u181, u182, u183, u184, u185, u186, u187, u188, u189, u190, u191, u192, u193, u194, u195, u196, u197, u198, u199, u200, u201, u202, u203, u204, u205, u206], defers := [] }
-- rows of three cells each, written one cell at a time
theorem raw_read {w : World} {base g n cap : Nat} {ok : Nat → Prop} {rows : List (List Value)} {e : Nat} (h : Kd.R (Kd.raw 3) e w base ok (.slice (some ⟨g, 0, none⟩) n cap) rows) (i : Nat) (x y z : Value) (hr : rows[i]? = some [x, y, z]) :
    w.cell? ⟨g, i * 3, none⟩ = some x ∧ w.cell? ⟨g, i * 3 + 1, none⟩ = some y ∧ w.cell? ⟨g, i * 3 + 2, none⟩ = some z ∧ w.frozen? ⟨g, i * 3, none⟩ = false ∧ w.frozen? ⟨g, i * 3 + 1, none⟩ = false ∧ w.frozen? ⟨g, i * 3 + 2, none⟩ = false := by
  have hn := (Kd.R_reads' h).1
  have hi : i < rows.length := by
    apply Classical.byContradiction
    intro hc
    rw [List.getElem?_eq_none (by omega)] at hr
    cases hr
  obtain ⟨c, _, hM, hcc, hf⟩ := Kd.R_elem h [] (i : Int) (by omega) (by omega)
  rw [Int.toNat_natCast, List.getD_eq_getElem?_getD, hr, Option.getD_some] at hM
  obtain ⟨rfl, _, _⟩ := hM
  rw [Int.toNat_natCast] at hcc hf
  exact ⟨hcc 0 _ rfl, hcc 1 _ rfl, hcc 2 _ rfl, hf 0, hf 1, hf 2⟩
theorem raw_write {w : World} {base g n cap : Nat} {rows : List (List Value)} {e : Nat} (h : Kd.R (Kd.raw 3) e w base (fun _ => True) (.slice (some ⟨g, 0, none⟩) n cap) rows) (i j : Nat) (r : List Value) (hr : rows[i]? = some r) (hj : j < 3) (u : Value) (hu : u.oneCell' = true) :
    Kd.R (Kd.raw 3) e (w.setCell ⟨g, i * 3 + j, none⟩ u) base (fun _ => True) (.slice (some ⟨g, 0, none⟩) n cap) (rows.set i (r.set j u)) := by
  have hn := (Kd.R_reads' h).1
  have hi : i < rows.length := by
    apply Classical.byContradiction
    intro hc
    rw [List.getElem?_eq_none (by omega)] at hr
    cases hr
  obtain ⟨c, hcl, hM, hcc, hf⟩ := Kd.R_elem h [] (i : Int) (by omega) (by omega)
  rw [Int.toNat_natCast, List.getD_eq_getElem?_getD, hr, Option.getD_some] at hM
  obtain ⟨rfl, hc3, hone⟩ := hM
  have h3 : c.length = 3 := hc3
  have e1 : c.take j ++ [u] ++ c.drop (j + 1) = c.set j u := by
    rw [List.set_eq_take_append_cons_drop, if_pos (by omega)]; simp
  have := (Kd.R_seg (okp := fun _ => False) h (i : Int) (by omega) (by omega) hcl hcc (seg := [u]) (j := j) (by show j + 1 ≤ 3; omega) (x' := c.set j u) (by
    rw [show j + [u].length = j + 1 from rfl, e1]
    refine ⟨rfl, by rw [List.length_set]; exact h3, fun q hq => ?_⟩
    rcases List.mem_or_eq_of_mem_set hq with hq | rfl
    · exact hone q hq
    · exact hu) (fun _ hk => hk.elim)).1
  rw [Int.toNat_natCast] at this
  exact this
theorem raw_form {w : World} {base : Nat} {v : Value} {rows : List (List Value)} {e : Nat} (h : Kd.R (Kd.raw 3) e w base (fun _ => True) v rows) {b : Nat} (hb : v.ownBlock = some b) : ∃ g cap, v = .slice (some ⟨g, 0, none⟩) rows.length cap := by
  obtain ⟨inner, _, ho⟩ := Kd.R_own h
  rcases ho with ⟨rfl, _⟩ | ⟨g, cap, cur, rfl, _⟩
  · simp [Value.ownBlock] at hb
  · exact ⟨g, cap, rfl⟩
theorem skip_seq_ {P : Program} {c : Code} {Q : Exit → Act → World → Prop} {a : Act} {w : World} (h : c.wp P Q a w) : (Code.skip.seq c).wp P Q a w := wp_seq (wp_skip h)
theorem wp_mono_ {P : Program} {c : Code} {Q Q' : Exit → Act → World → Prop} {a : Act} {w : World} (h : c.wp P Q a w) (hq : ∀ e a w, Q e a w → Q' e a w) : c.wp P Q' a w := by
  intro b k cs
  obtain ⟨e, a1, w1, hQ, harr⟩ := h b k cs
  exact ⟨e, a1, w1, hq _ _ _ hQ, harr⟩
theorem jumps_ {P : Program} {Q : Exit → Act → World → Prop} {a : Act} {w : World} {c rest : Code} (l : Nat) (J : Act → World → Prop) (μ : Act → World → Nat) (hf : findLabel c l = some (Code.skip.seq rest))
    (pass : ∀ a w, J a w → rest.wp P (Exit.jump l (fun a' w' => J a' w' ∧ μ a' w' < μ a w) Q) a w)
    (first : (∀ a w, J a w → rest.wp P (Exit.jump l J Q) a w) → c.wp P (Exit.jump l J Q) a w) : (Code.scope c).wp P Q a w := by
  refine wp_scope_jumps l J μ hf (first fun a w hJ => wp_mono_ (pass a w hJ) ?_) fun a w hJ => skip_seq_ (pass a w hJ)
  intro e a' w' h
  cases e <;> first | exact h | exact ⟨h.1, h.2.1⟩
/-- A job's slice as the call got it -/
def JobV (w : World) (job : List S55) (v : Value) : Prop := ∃ A c, v = .slice A job.length c ∧ Kd.C k55 w A job.length job
structure Inv (w0 : World) (jobs : List (List S55)) (m g cap b8 b12 : Nat) (s : PS) (vd vby : Value) (rows : List (List Value)) (w : World) : Prop where
  below : Below w0.heap.size w0 w
  h8 : w.heap[b8]? = some (.cells #[.slice none 0 0] 24 (0, 0))
  h12 : w.heap[b12]? = some (.cells #[vby] 24 (0, 0))
  ne : b8 ≠ b12
  ge8 : w0.heap.size ≤ b8
  ge12 : w0.heap.size ≤ b12
  geg : w0.heap.size ≤ g
  by_ : Kd.R (Kd.int .i64) 3 w w0.heap.size (fun k => some k ≠ vd.ownBlock) vby s.by_
  all : Kd.R (Kd.raw 3) 65 w w0.heap.size (fun _ => True) (.slice (some ⟨g, 0, none⟩) jobs.length cap) rows
  done : Kd.R (Kd.int .i64) 3 w w0.heap.size (fun _ => True) vd s.done
  len : s.all.length = jobs.length
  rows : ∀ k, k < jobs.length → ∃ v, (k < m → JobV w0 (rd_L5 jobs k) v) ∧ rows[k]? = some [v, .int .i64 (s.all.getD k (0, 0)).1, .int .i64 (s.all.getD k (0, 0)).2]
theorem cell_kept_ {w w1 : World} {p : Addr} {v : Value} (h : Below w.heap.size w w1) (hc : w.cell? p = some v) : w1.cell? p = some v := by
  have hp : p.block < w.heap.size := by
    apply Classical.byContradiction
    intro hn
    have : w.heap[p.block]? = none := Array.getElem?_eq_none (by omega)
    simp [World.cell?, this] at hc
  rw [h.cell hp]
  exact hc
theorem blk_differ {w : World} {a b s t : Nat} {x y : Array Value} (h : w.heap[a]? = some (.cells x s (0, 0))) (h2 : w.heap[b]? = some (.cells y t (0, 0))) (hst : s ≠ t) : a ≠ b := by
  intro e
  subst e
  rw [h] at h2
  injection h2 with h2
  injection h2 with _ h3
  exact hst h3
theorem Inv.gtyped {w0 : World} {jobs : List (List S55)} {m g cap b8 b12 : Nat} {s : PS} {vd vby : Value} {rows : List (List Value)} {w : World} (h : Inv w0 jobs m g cap b8 b12 s vd vby rows w) : ∃ cells, w.heap[g]? = some (.cells cells 65 (0, 0)) := Kd.R_typed h.all g (by simp [Value.ownBlock])
theorem Inv.below' {w0 : World} {jobs : List (List S55)} {m g cap b8 b12 : Nat} {s : PS} {vd vby : Value} {rows : List (List Value)} {w w1 : World} (h : Inv w0 jobs m g cap b8 b12 s vd vby rows w) (hb : Below w.heap.size w w1) : Inv w0 jobs m g cap b8 b12 s vd vby rows w1 :=
  ⟨below_step h.below hb, blk_below h.h8 hb, blk_below h.h12 hb, h.ne, h.ge8, h.ge12, h.geg, Kd.R_below h.by_ hb, Kd.R_below h.all hb, Kd.R_below h.done hb, h.len, h.rows⟩
theorem Inv.setBy {w0 : World} {jobs : List (List S55)} {m g cap b8 b12 : Nat} {s : PS} {vd vby : Value} {rows : List (List Value)} {w : World} (h : Inv w0 jobs m g cap b8 b12 s vd vby rows w) {vm : Value} {b : List Int}
    (hR : Kd.R (Kd.int .i64) 3 w w0.heap.size (fun k => some k ≠ vd.ownBlock) vm b) : Inv w0 jobs m g cap b8 b12 ⟨b, s.all, s.done⟩ vd vm rows (w.setCell ⟨b12, 0, none⟩ vm) := by
  obtain ⟨cg, hg⟩ := h.gtyped
  refine ⟨h.below.setCell (p := ⟨b12, 0, none⟩) h.ge12 _, ?_, ?_, h.ne, h.ge8, h.ge12, h.geg, Kd.R_set hR h.h12 (by simp [Kd.int, Kd.scalar]) 0 _, Kd.R_set h.all h.h12 (by simp [Kd.raw]) 0 _, Kd.R_set h.done h.h12 (by simp [Kd.int, Kd.scalar]) 0 _, h.len, h.rows⟩
  · rw [Below.heap_setCell _ _ _ _ h.ne]; exact h.h8
  · have := blk_set (u := vm) (i := 0) h.h12
    simpa using this
theorem Inv.setCell3 {w0 : World} {jobs : List (List S55)} {m m' g cap b8 b12 : Nat} {s : PS} {vd vby : Value} {rows : List (List Value)} {w : World} (h : Inv w0 jobs m g cap b8 b12 s vd vby rows w) (k j : Nat) (hk : k < jobs.length) (hj : j < 3) (u : Value) (hu : u.oneCell' = true)
    (all' : List (Nat × Nat)) (r : List Value) (hrow : rows[k]? = some r) (hl : all'.length = jobs.length)
    (hr : ∃ v, (k < m' → JobV w0 (rd_L5 jobs k) v) ∧ r.set j u = [v, .int .i64 (all'.getD k (0, 0)).1, .int .i64 (all'.getD k (0, 0)).2]) (hm : ∀ i, i ≠ k → i < m' → i < m) (ha : ∀ i, i ≠ k → all'.getD i (0, 0) = s.all.getD i (0, 0)) :
    Inv w0 jobs m' g cap b8 b12 ⟨s.by_, all', s.done⟩ vd vby (rows.set k (r.set j u)) (w.setCell ⟨g, k * 3 + j, none⟩ u) := by
  obtain ⟨cg, hg⟩ := h.gtyped
  have hrl : k < rows.length := by have := (Kd.R_reads' h.all).1; omega
  refine ⟨h.below.setCell (p := ⟨g, k * 3 + j, none⟩) h.geg _, ?_, ?_, h.ne, h.ge8, h.ge12, h.geg, Kd.R_set h.by_ hg (by simp [Kd.int, Kd.scalar]) _ _, raw_write h.all k j r hrow hj u hu, Kd.R_set h.done hg (by simp [Kd.int, Kd.scalar]) _ _, hl, fun i hi => ?_⟩
  · rw [Below.heap_setCell _ _ _ _ (blk_differ h.h8 hg (by decide))]; exact h.h8
  · rw [Below.heap_setCell _ _ _ _ (blk_differ h.h12 hg (by decide))]; exact h.h12
  · by_cases e : i = k
    · subst e
      rw [List.getElem?_set, if_pos rfl, if_pos hrl]
      obtain ⟨v, hv, he⟩ := hr
      exact ⟨v, hv, by rw [he]⟩
    · rw [List.getElem?_set, if_neg (Ne.symm e)]
      obtain ⟨v, hv, he⟩ := h.rows i hi
      refine ⟨v, fun hi' => hv (hm i e hi'), ?_⟩
      show rows[i]? = some [v, .int .i64 (all'.getD i (0, 0)).1, .int .i64 (all'.getD i (0, 0)).2]
      rw [ha i e]
      exact he
theorem Inv.setDone {w0 : World} {jobs : List (List S55)} {m g cap b8 b12 : Nat} {s : PS} {vd vby : Value} {rows : List (List Value)} {w w1 : World} (h : Inv w0 jobs m g cap b8 b12 s vd vby rows w) {v1 : Value} {d : List Int} (hb : Below w0.heap.size w0 w1)
    (hR : Kd.R (Kd.int .i64) 3 w1 w0.heap.size (fun _ => True) v1 d) (hg : w.grownBy w1 vd.ownBlock) (hat : v1.ownBlock = vd.ownBlock ∨ ∃ b, v1.ownBlock = some b ∧ w.heap.size ≤ b) : Inv w0 jobs m g cap b8 b12 ⟨s.by_, s.all, d⟩ v1 vby rows w1 := by
  have hd : ∀ {b t : Nat} {x : Array Value}, w.heap[b]? = some (.cells x t (0, 0)) → t ≠ 3 → w1.heap[b]? = some (.cells x t (0, 0)) := by
    intro b t x hh ht
    rw [hg.block b (blk_lt hh) (Kd.R_ne h.done hh (Ne.symm ht))]
    exact hh
  refine ⟨hb, hd h.h8 (by decide), hd h.h12 (by decide), h.ne, h.ge8, h.ge12, h.geg, ?_, Kd.R_over h.all h.done (by simp [Kd.raw]) hg, hR, h.len, h.rows⟩
  exact Kd.R_mono (Kd.R_after (ok := fun _ => True) (Kd.R_mono h.by_ fun k hk => ⟨trivial, hk⟩) hg hat) fun k hk => hk.2
theorem Inv.newBy {w0 : World} {jobs : List (List S55)} {m g cap b8 b12 : Nat} {s : PS} {vd vby : Value} {rows : List (List Value)} {w w4 : World} (h : Inv w0 jobs m g cap b8 b12 s vd vby rows w) {vm : Value} {b : List Int} (hb : Below w.heap.size w w4)
    (hR : Kd.R (Kd.int .i64) 3 w4 w.heap.size (fun _ => True) vm b) : Inv w0 jobs m g cap b8 b12 ⟨b, s.all, s.done⟩ vd vm rows (w4.setCell ⟨b12, 0, none⟩ vm) :=
  Inv.setBy (h.below' hb) (Kd.R_mono (Kd.R_lower (Kd.R_new' hR (Kd.R_lt h.done)) h.below.size) fun k hk => hk.2)
theorem Inv.setOut {w0 : World} {jobs : List (List S55)} {m g cap b8 b12 : Nat} {s : PS} {vd vby : Value} {rows : List (List Value)} {w w1 : World} (h : Inv w0 jobs m g cap b8 b12 s vd vby rows w) {base : Nat} {ok : Nat → Prop} {vo : Value} {xs : List S52}
    (hS : Kd.R k52 52 w base ok vo xs) (hb : Below w0.heap.size w0 w1) (hg : w.grownBy w1 vo.ownBlock) : Inv w0 jobs m g cap b8 b12 s vd vby rows w1 :=
  ⟨hb, blk_grown h.h8 hg (Kd.R_ne hS h.h8 (by decide)), blk_grown h.h12 hg (Kd.R_ne hS h.h12 (by decide)), h.ne, h.ge8, h.ge12, h.geg, Kd.R_over h.by_ hS (by simp [Kd.int, Kd.scalar]) hg, Kd.R_over h.all hS (by simp [Kd.raw]) hg, Kd.R_over h.done hS (by simp [Kd.int, Kd.scalar]) hg, h.len, h.rows⟩
theorem Inv.setOther {w0 : World} {jobs : List (List S55)} {m g cap b8 b12 : Nat} {s : PS} {vd vby : Value} {rows : List (List Value)} {w : World} (h : Inv w0 jobs m g cap b8 b12 s vd vby rows w) {b : Nat} {x : Array Value}
    (hx : w.heap[b]? = some (.cells x 52 (0, 0))) (hge : w0.heap.size ≤ b) (j : Nat) (u : Value) : Inv w0 jobs m g cap b8 b12 s vd vby rows (w.setCell ⟨b, j, none⟩ u) :=
  ⟨h.below.setCell (p := ⟨b, j, none⟩) hge _, blk_far h.h8 (blk_differ h.h8 hx (by decide)) _, blk_far h.h12 (blk_differ h.h12 hx (by decide)) _, h.ne, h.ge8, h.ge12, h.geg, Kd.R_set h.by_ hx (by simp [Kd.int, Kd.scalar]) _ _, Kd.R_set h.all hx (by simp [Kd.raw]) _ _, Kd.R_set h.done hx (by simp [Kd.int, Kd.scalar]) _ _, h.len, h.rows⟩
def outs (ord : Bool) (jobs : List (List S55)) (all : List (Nat × Nat)) (n : Nat) : List S52 := (List.range n).map fun k => ⟨(out1 ord ((prs jobs).getD k []) (all.getD k (0, 0))).1, (out1 ord ((prs jobs).getD k []) (all.getD k (0, 0))).2⟩
theorem outs_succ (ord : Bool) (jobs : List (List S55)) (all : List (Nat × Nat)) (n : Nat) : outs ord jobs all (n + 1) = outs ord jobs all n ++ [⟨(out1 ord ((prs jobs).getD n []) (all.getD n (0, 0))).1, (out1 ord ((prs jobs).getD n []) (all.getD n (0, 0))).2⟩] := by
  unfold outs
  rw [List.range_succ, List.map_append]; rfl
theorem outs_length (ord : Bool) (jobs : List (List S55)) (all : List (Nat × Nat)) (n : Nat) : (outs ord jobs all n).length = n := by simp [outs]
theorem outs_all (ord : Bool) (jobs : List (List S55)) (all : List (Nat × Nat)) : outs ord jobs all jobs.length = (outP ord (prs jobs) all).map fun x => ⟨x.1, x.2⟩ := by
  unfold outs outP
  rw [prs_length, List.map_map]; rfl
theorem size_set_ {wr w2 : World} (h : Below wr.heap.size wr w2) (p : Addr) (u : Value) : wr.heap.size ≤ (w2.setCell p u).heap.size := by
  rw [show (w2.setCell p u).heap.size = w2.heap.size from by simp [World.setCell]]
  exact h.size
theorem row_new_ {w2 wr : World} {o : Obj} {base : Nat} {v : Value} {xs : List Int} (hb : base ≤ wr.heap.size) (h : Kd.R (Kd.int .i64) 3 w2 (wr.alloc o).heap.size (fun _ => True) v xs) : Kd.R (Kd.int .i64) 3 w2 base (fun k => wr.heap.size ≤ k) v xs := by
  have hs : wr.heap.size ≤ (wr.alloc o).heap.size := by simp
  exact Kd.R_lower (Kd.R_mono (Kd.R_bound h) fun k hk => Nat.le_trans hs hk.2.1) (Nat.le_trans hb hs)
theorem s_far_ {w w2 : World} {base n : Nat} {ok : Nat → Prop} {v : Value} {xs : List S52} (h : Kd.S k52 52 w base (fun k => ok k ∧ k < n) v xs) (hb : Below w.heap.size w w2) (j : Nat) (u : Value) : Kd.S k52 52 (w2.setCell ⟨n, j, none⟩ u) base (fun k => ok k ∧ k < n) v xs :=
  Kd.S_far (Kd.S_below h hb) (p := ⟨n, j, none⟩) (fun k hk => Nat.ne_of_lt hk.2) u
theorem s_not_ {w : World} {base n : Nat} {ok : Nat → Prop} {v : Value} {xs : List S52} (h : Kd.S k52 52 w base (fun k => ok k ∧ k < n) v xs) : Kd.S k52 52 w base (fun k => ok k ∧ ¬ n ≤ k) v xs := Kd.S_mono h fun k hk => ⟨hk.1, Nat.not_le.2 hk.2⟩
theorem size_eq_ (w : World) (p : Addr) (u : Value) : (w.setCell p u).heap.size = w.heap.size := by simp [World.setCell]
theorem size_set2_ {wr w2 : World} (h : Below wr.heap.size wr w2) (p : Addr) (u : Value) (p2 : Addr) (u2 : Value) : wr.heap.size ≤ ((w2.setCell p u).setCell p2 u2).heap.size := by
  rw [size_eq_, size_eq_]
  exact h.size
theorem el_cell_ {w : World} {ad : Addr} {i : Nat} {l : List Int} {c : List Value} {x : Int} (hK : (Kd.int .i64).K w (l.getD ((i : Int)).toNat 0) c) (hc : ∀ j u, c[j]? = some u → w.cell? (ad.add (((i : Int)).toNat * (Kd.int .i64).sz + j)) = some u) (hx : l.getD i 0 = x) : w.cell? (ad.add i) = some (.int .i64 x) := by
  rw [Int.toNat_natCast] at hK hc
  rw [hx] at hK
  have hq : w.cell? (ad.add (i * 1 + 0)) = some (.int .i64 x) := hc 0 (.int .i64 x) (by rw [show c = [.int .i64 x] from hK]; rfl)
  rwa [Nat.mul_one, Nat.add_zero] at hq
theorem rd_le_total (jobs : List (List S55)) (k : Nat) (hk : k < jobs.length) : (rd_L5 jobs (k : Int)).length ≤ total jobs := by
  have e : rd_L5 jobs (k : Int) = jobs[k] := by
    rw [rd_L5, Int.toNat_natCast, List.getD_eq_getElem?_getD, List.getElem?_eq_getElem hk]; rfl
  unfold total
  rw [e]
  have := (List.sublist_flatten_of_mem (List.getElem_mem hk)).length_le
  exact this
theorem sec_call {w0 : World} {jobs : List (List S55)} {m g cap b8 b12 : Nat} {s : PS} {vd vby : Value} {rows : List (List Value)} {w : World} (h : Inv w0 jobs m g cap b8 b12 s vd vby rows w) (ord : Bool) (k : Nat) (hk : k < jobs.length) (hm : jobs.length ≤ m) (hT : total jobs ≤ 1000000)
    (hat : (s.all.getD k (0, 0)).1 ≤ ((prs jobs).getD k []).length) :
    Calls Try.prog 36 #[.pointer (some ⟨g, k * 3, none⟩), .bool ord] w fun e w' => ∃ A c, e = .returned (.slice A (secAt ord ((prs jobs).getD k []) (s.all.getD k (0, 0)).1).length c) ∧
      Kd.R (Kd.int .i64) 3 w' w.heap.size (fun _ => True) (.slice A (secAt ord ((prs jobs).getD k []) (s.all.getD k (0, 0)).1).length c) (secAt ord ((prs jobs).getD k []) (s.all.getD k (0, 0)).1) ∧ Below w.heap.size w w' := by
  obtain ⟨v, hv, hrow⟩ := h.rows k hk
  obtain ⟨A, c, rfl, hC⟩ := hv (by omega)
  obtain ⟨f0, f1, f2, _⟩ := raw_read h.all k _ _ _ hrow
  have hle := rd_le_total jobs k hk
  rw [prs_getD] at hat ⊢
  rw [List.length_map] at hat
  by_cases hlt : (s.all.getD k (0, 0)).1 < (rd_L5 jobs (k : Int)).length
  · obtain ⟨ad, rfl, x0, x1⟩ := at_T55 hC ((s.all.getD k (0, 0)).1 : Int) (by omega) (by omega)
    rw [Int.toNat_natCast] at x0 x1
    have e : secAt ord ((rd_L5 jobs (k : Int)).map pr55) (s.all.getD k (0, 0)).1 = secOf (rd_T55 (rd_L5 jobs (k : Int)) ((s.all.getD k (0, 0)).1 : Int)).f0 (rd_T55 (rd_L5 jobs (k : Int)) ((s.all.getD k (0, 0)).1 : Int)).f1 ord := by
      unfold secAt
      rw [List.length_map, if_pos hlt, pr55_getD]
    rw [e]
    refine (section_some g (k * 3) ad _ c _ _ _ ord w hlt (by omega) f0 f1 (cell_kept_ h.below x0) (by rw [add_field ad _ 1 (by omega)]; exact cell_kept_ h.below x1)).mono ?_
    rintro e w' ⟨v, rfl, hr, hb⟩
    obtain ⟨A', c', rfl⟩ := Kd.R_slice hr
    exact ⟨A', c', rfl, hr, hb⟩
  · have e : secAt ord ((rd_L5 jobs (k : Int)).map pr55) (s.all.getD k (0, 0)).1 = [] := secAt_none (by rw [List.length_map]; exact hlt)
    rw [e]
    have e2 : (s.all.getD k (0, 0)).1 = (rd_L5 jobs (k : Int)).length := by omega
    rw [e2] at f1
    refine (section_none g (k * 3) A _ c ord w f0 f1).mono ?_
    rintro e w' ⟨rfl, hd⟩
    exact ⟨none, 0, rfl, Kd.R_nil _ _ _ _ _, hd.below⟩
theorem inf52_ : (Try.prog.info? 52).map (fun i => (i.zero, i.size, i.bytes)) = some (some (.agg #[(.slice none 0 0), (.int .i64 0)]), 2, 32) := by kernel_rfl
theorem locks_Play.info65 : (Try.prog.info? 65).map (fun i => (i.zero, i.size, i.bytes)) = some (some (.agg #[.slice none 0 0, .int .i64 0, .int .i64 0]), 3, 40) := by kernel_rfl
set_option maxHeartbeats 4000000 in
set_option maxRecDepth 100000 in
theorem locks_Play.main (a0 : Int) (A1 : Option Addr) (c1 : Nat) (l1 : List (List S55)) (a2 : Bool) (A3 : Option Addr) (c3 : Nat) (l3 : List Int) (w : World)
    (hr1 : Kd.C (Kd.slice 55 k55) w A1 l1.length l1) (hc1 : l1.length ≤ c1) (hr3 : Kd.C (Kd.int .i64) w A3 l3.length l3) (hc3 : l3.length ≤ c3) (ht : total l1 ≤ 1000000) (h0 : 0 ≤ a0) (h65 : a0 ≤ 65) (hj : l1.length ≤ 64) (hp : l3.length ≤ 20000) (hri : rightP a0 (prs l1) = true) :
    Calls Try.prog 23 #[.int .i64 a0, .slice A1 l1.length c1, .bool a2, .slice A3 l3.length c3] w fun e w' => ∃ v0_ v1_ v2_ : Value, e = .returned (.tuple #[.agg #[v0_], v1_, v2_, .int .i64 0]) ∧
      Kd.R (Kd.int .i64) 3 w' w.heap.size (fun k_ => some k_ ≠ (v2_ : Value).ownBlock) v0_ (playsP a0 (prs l1) a2 l3).by_ ∧ Kd.S k52 52 w' w.heap.size (fun k_ => some k_ ≠ (v0_ : Value).ownBlock ∧ some k_ ≠ (v2_ : Value).ownBlock) v1_ ((outP a2 (prs l1) (playsP a0 (prs l1) a2 l3).all).map fun x => ⟨x.1, x.2⟩) ∧ Kd.R (Kd.int .i64) 3 w' w.heap.size (fun k_ => some k_ ≠ (v0_ : Value).ownBlock) v2_ (playsP a0 (prs l1) a2 l3).done ∧ Below w.heap.size w w' := by
  have HR1 := Aside0.mk hr1
  have HR3 := Aside0.mk hr3
  have HC1 := Aside0.mk hc1
  have HC3 := Aside0.mk hc3
  have HRI := Aside0.mk hri
  have HT := Aside0.mk ht
  clear hr1 hr3 hc1 hc3 hri ht
  go_enter Try.func23, Try.ntmps23
  go_wp2
  refine jumps_ (rest := ?rest) 0 (fun a w' => ∃ (i : Nat) (g cap b8 b12 : Nat) (vd vby : Value) (rows : List (List Value)), i ≤ l3.length ∧ Fr (.int .i64 a0) (.slice A1 l1.length c1) (.bool a2) (.slice A3 l3.length c3) (.pointer (some ⟨b8, 0, none⟩)) (.pointer (some ⟨b12, 0, none⟩)) (.slice (some ⟨g, 0, none⟩) l1.length cap) vd (.int .i64 i) a ∧ Inv w l1 l1.length g cap b8 b12 ((l3.take i).foldl (stepP a2 (prs l1)) (startP a0 l1.length)) vd vby rows w') (fun a _ => l3.length - (intOf (a.tmps.getD 18 undef)).toNat) ?hf ?pass ?first
  case hf => rfl
  case pass =>
    intro a w' hJ
    obtain ⟨i, g, cap, b8, b12, vd, vby, rows, hi, hF, hI⟩ := hJ
    cases hF
    have hok := Ok.plays a2 a0 h65 (prs l1) l3 i hi
    rw [prs_length] at hok
    have hsn : ∀ h : i < l3.length, (l3.take (i + 1)).foldl (stepP a2 (prs l1)) (startP a0 l1.length) = stepP a2 (prs l1) ((l3.take i).foldl (stepP a2 (prs l1)) (startP a0 l1.length)) (l3.getD i 0) := by
      intro h
      rw [take_snoc_ l3 i 0 h, List.foldl_append]; rfl
    have hend : i = l3.length → (l3.take i).foldl (stepP a2 (prs l1)) (startP a0 l1.length) = playsP a0 (prs l1) a2 l3 := by
      intro h
      rw [List.take_of_length_le (by omega), playsP, prs_length]
    generalize (l3.take i).foldl (stepP a2 (prs l1)) (startP a0 l1.length) = s at hI hok hsn hend
    have HI := Aside0.mk hI
    have HOK := Aside0.mk hok
    have HSN := Aside0.mk hsn
    have HEND := Aside0.mk hend
    clear hI hok hsn hend
    by_cases hlt : i < l3.length
    · have q1 : ((i : Int) < (l3.length : Int)) = True := eq_true (by omega)
      obtain ⟨ad, c, hA, _, hK, hc⟩ := Kd.C_get HR3.out 0 (i : Int) (by omega) (by omega)
      subst hA
      rw [Int.toNat_natCast] at hK hc
      have hc0 : w.cell? (ad.add i) = some (.int .i64 (l3.getD i 0)) := by
        have hq : w.cell? (ad.add (i * 1 + 0)) = some (.int .i64 (l3.getD i 0)) := hc 0 (.int .i64 (l3.getD i 0)) (by rw [show c = [.int .i64 (l3.getD i 0)] from hK]; rfl)
        rwa [Nat.mul_one, Nat.add_zero] at hq
      have hcr := cell_kept_ HI.out.below hc0
      clear hc0 hc hK
      generalize hp0 : l3.getD i 0 = p at hcr HSN
      have HP0 := Aside0.mk hp0
      clear hp0
      by_cases cA : p < 0
      · have hst : stepP a2 (prs l1) s p = s := by unfold stepP; rw [if_pos (Or.inl cA)]
        have HST := Aside0.mk hst
        clear hst
        go_wp2
        go_step3
        refine ⟨rfl, ⟨i + 1, g, cap, b8, b12, vd, vby, rows, hlt, (show Fr _ _ _ _ _ _ _ _ (.int .i64 ((i : Int) + 1)) _ from .mk ..), ?_⟩, ?_⟩
        · rw [HSN.out hlt, HST.out]
          exact HI.out
        · show l3.length - ((i : Int) + 1).toNat < l3.length - (i : Int).toNat
          omega
      by_cases cB : (l1.length : Int) ≤ p
      · have hst : stepP a2 (prs l1) s p = s := by unfold stepP; rw [if_pos (Or.inr (by rw [prs_length]; exact cB))]
        have HST := Aside0.mk hst
        clear hst
        go_wp2
        go_step3
        refine ⟨rfl, ⟨i + 1, g, cap, b8, b12, vd, vby, rows, hlt, (show Fr _ _ _ _ _ _ _ _ (.int .i64 ((i : Int) + 1)) _ from .mk ..), ?_⟩, ?_⟩
        · rw [HSN.out hlt, HST.out]
          exact HI.out
        · show l3.length - ((i : Int) + 1).toNat < l3.length - (i : Int).toNat
          omega
      obtain ⟨k, rfl⟩ : ∃ k : Nat, p = k := ⟨p.toNat, by omega⟩
      have hk : k < l1.length := by omega
      obtain ⟨v, hv, hrow⟩ := HI.out.rows k hk
      have HV := Aside0.mk hv
      clear hv
      have HROW := Aside0.mk hrow
      clear hrow
      have hkt : ((k : Nat) : Int).toNat = k := Int.toNat_natCast k
      have hat := HOK.out.at_ k (by rw [prs_length]; exact hk)
      have hhas := HOK.out.has k (by rw [prs_length]; exact hk)
      have hsl := secAt_length a2 ((prs l1).getD k []) (s.all.getD k (0, 0)).1
      have HCALL := Aside0.mk (fun (w1 : World) (h : Inv w l1 l1.length g cap b8 b12 s vd vby rows w1) => sec_call h a2 k hk (Nat.le_refl _) HT.out hat)
      have HSTEP := Aside0.mk (show stepP a2 (prs l1) s (k : Int) = _ from rfl)
      have hstep : stepP a2 (prs l1) s (k : Int) = if (secAt a2 ((prs l1).getD k []) (s.all.getD k (0, 0)).1).length = 0 then s else if (s.all.getD k (0, 0)).2 < (secAt a2 ((prs l1).getD k []) (s.all.getD k (0, 0)).1).length then
          (if (takeP s.by_ ((secAt a2 ((prs l1).getD k []) (s.all.getD k (0, 0)).1).getD (s.all.getD k (0, 0)).2 0) k).2 = 0 then ⟨(takeP s.by_ ((secAt a2 ((prs l1).getD k []) (s.all.getD k (0, 0)).1).getD (s.all.getD k (0, 0)).2 0) k).1, s.all.set k ((s.all.getD k (0, 0)).1, (s.all.getD k (0, 0)).2 + 1), s.done⟩ else s)
          else ⟨(secAt a2 ((prs l1).getD k []) (s.all.getD k (0, 0)).1).foldl (fun b x => (giveP b x k).1) s.by_, s.all.set k ((s.all.getD k (0, 0)).1 + 1, 0), s.done ++ [(k : Int)]⟩ := by
        unfold stepP
        rw [if_neg (by rw [prs_length]; omega)]
        simp only [hkt]
      clear HSTEP hat
      have HST := Aside0.mk hstep
      clear hstep
      have hatb : (s.all.getD k (0, 0)).1 ≤ 1000000 := by
        have h1 := HOK.out.at_ k (by rw [prs_length]; exact hk)
        have h2 := rd_le_total l1 k hk
        have h3 := HT.out
        rw [prs_getD, List.length_map] at h1
        omega
      generalize hat0 : (s.all.getD k (0, 0)).1 = at0 at HROW HCALL HST hhas hsl hatb
      generalize hh0 : (s.all.getD k (0, 0)).2 = has0 at HROW HST hhas
      generalize secAt a2 ((prs l1).getD k []) at0 = sc at HCALL HST hhas hsl
      have HAT := Aside0.mk hat0
      have HHA := Aside0.mk hh0
      clear hat0 hh0
      have q2 : ((k : Int) < 0) = False := eq_false (by omega)
      have q3 : ((l1.length : Int) ≤ (k : Int)) = False := eq_false (by omega)
      by_cases c0 : sc.length = 0
      · rw [if_pos c0] at HST
        go_wp2_with (go_at_call 36; (with_reducible refine (HCALL.out _ HI.out).mono ?_); rintro e w2 ⟨As, cs, rfl, hS, hB⟩; have HI2 := Aside0.mk (Inv.below' HI.out hB); clear hS hB)
        go_step3
        refine ⟨rfl, ⟨i + 1, g, cap, b8, b12, vd, vby, rows, hlt, (show Fr _ _ _ _ _ _ _ _ (.int .i64 ((i : Int) + 1)) _ from .mk ..), ?_⟩, ?_⟩
        · rw [HSN.out hlt, HST.out]
          exact HI2.out
        · show l3.length - ((i : Int) + 1).toNat < l3.length - (i : Int).toNat
          omega
      rw [if_neg c0] at HST
      by_cases c1 : has0 < sc.length
      · rw [if_pos c1] at HST
        have q4 : ((sc.length : Int) == 0) = false := beq_eq_false_iff_ne.2 (by omega)
        have q5 : ((has0 : Int) < (sc.length : Int)) = True := eq_true (by omega)
        have hb65 : s.by_.length ≤ 65 := HOK.out.by_
        have HG := Aside0.mk (take_f s.by_ (sc.getD has0 0) k hb65)
        generalize hlk : sc.getD has0 0 = lock at HST HG
        have HLK := Aside0.mk hlk
        clear hlk
        obtain ⟨Ab, cb, rfl⟩ := Kd.R_slice HI.out.by_
        go_wp2_with (go_at_call 36; (with_reducible refine (HCALL.out _ HI.out).mono ?_); rintro e w2 ⟨As, cs, rfl, hS, hB⟩; have HI2 := Aside0.mk (Inv.below' HI.out hB); have hS0 := Aside0.mk hS; obtain ⟨f0, f1, f2, z0, z1, z2⟩ := raw_read HI2.out.all k _ _ _ HROW.out; have HB := Aside0.mk hB; clear hS hB)
        have HBR := Aside0.mk (Kd.R_reads' HI2.out.by_)
        obtain ⟨ad2, cc2, hA2, _, hK2, hc2⟩ := Kd.C_get (Kd.R_reads' hS0.out).2.2 0 (has0 : Int) (by omega) (by omega)
        subst hA2
        rw [Int.toNat_natCast] at hK2 hc2
        have H2 : Aside0 (w2.cell? (ad2.add has0) = some (.int .i64 lock)) := by
          have hq : w2.cell? (ad2.add (has0 * 1 + 0)) = some (.int .i64 (sc.getD has0 0)) := hc2 0 (.int .i64 (sc.getD has0 0)) (by rw [show cc2 = [.int .i64 (sc.getD has0 0)] from hK2]; rfl)
          rw [Nat.mul_one, Nat.add_zero, HLK.out] at hq
          exact ⟨hq⟩
        have H0 : Aside0 (w2.cell? ⟨b12, 0, none⟩ = some (.slice Ab s.by_.length cb)) := ⟨blk_cell HI2.out.h12 0⟩
        have H1 := Aside0.mk f2
        clear hK2 hc2 f0 f1 f2 z0 z1 z2 hcr
        have b1 : (0 : Int) ≤ (has0 : Int) := by omega
        have b2 : (has0 : Int) < (sc.length : Int) := by omega
        refine start_ (n := 16) (S := fun w' => w'.cell? ⟨b12, 0, none⟩ = some (.slice Ab s.by_.length cb) ∧ w'.cell? ⟨g, k * 3 + 2, none⟩ = some (.int .i64 (has0 : Int)) ∧ w'.cell? (ad2.add has0) = some (.int .i64 lock) ∧ Below w2.heap.size w2 w') (ds := []) #[false, false, false, false, false, false, false, false, false, false, false, false, false, false, false, false] (by kernel_rfl) rfl rfl ⟨cell_kept_ (below_drew (Below.refl _ _)) H0.out, cell_kept_ (below_drew (Below.refl _ _)) H1.out, cell_kept_ (below_drew (Below.refl _ _)) H2.out, (below_drew (Below.refl _ _))⟩ (fun hHeld => ?_)
        refine pure_ (i := 1) (N := some 139) (v := ?_) (a' := ?_) #[false, true, false, false, false, false, false, false, false, false, false, false, false, false, false, false] rfl rfl (by kernel_rfl) (fun _ _ _ h => h) (Or.inl ⟨by rfl, ?_⟩) ?_ ?_
        rotate_left
        · intro w'
          go_simp
          with_reducible rfl
        rotate_left
        · simp only [Act.put, List.setIfInBounds_toArray, List.set_cons_zero, List.set_cons_succ, i64_w, i32_w]
          rfl
        refine pure_ (i := 2) (N := some 140) (v := ?_) (a' := ?_) #[false, true, true, false, false, false, false, false, false, false, false, false, false, false, false, false] rfl rfl (by kernel_rfl) (fun _ _ _ h => h) (Or.inl ⟨by rfl, ?_⟩) ?_ ?_
        rotate_left
        · intro w'
          go_simp
          with_reducible rfl
        rotate_left
        · simp only [Act.put, List.setIfInBounds_toArray, List.set_cons_zero, List.set_cons_succ, i64_w, i32_w]
          rfl
        refine pure_ (i := 3) (N := some 141) (v := ?_) (a' := ?_) #[false, true, true, true, false, false, false, false, false, false, false, false, false, false, false, false] rfl rfl (by kernel_rfl) (fun _ _ _ h => h) (Or.inl ⟨by rfl, ?_⟩) ?_ ?_
        rotate_left
        · intro w'
          go_simp
          with_reducible rfl
        rotate_left
        · simp only [Act.put, List.setIfInBounds_toArray, List.set_cons_zero, List.set_cons_succ, i64_w, i32_w]
          rfl
        refine pure_ (i := 4) (N := some 142) (v := ?_) (a' := ?_) #[false, true, true, true, true, false, false, false, false, false, false, false, false, false, false, false] rfl rfl (by kernel_rfl) (fun _ _ _ h => h) (Or.inl ⟨by rfl, ?_⟩) ?_ ?_
        rotate_left
        · intro w'
          go_simp
          with_reducible rfl
        rotate_left
        · simp only [Act.put, List.setIfInBounds_toArray, List.set_cons_zero, List.set_cons_succ, i64_w, i32_w]
          rfl
        refine pure_ (i := 8) (N := some 146) (v := ?_) (a' := ?_) #[false, true, true, true, true, false, false, false, true, false, false, false, false, false, false, false] rfl rfl (by kernel_rfl) (fun _ _ _ h => h) (Or.inl ⟨by rfl, ?_⟩) ?_ ?_
        rotate_left
        · intro w'
          go_simp
          with_reducible rfl
        rotate_left
        · simp only [Act.put, List.setIfInBounds_toArray, List.set_cons_zero, List.set_cons_succ, i64_w, i32_w]
          rfl
        refine take_ (i := 0) (N := some 138) (v := ?_) (a' := ?_) #[true, true, true, true, true, false, false, false, true, false, false, false, false, false, false, false] rfl rfl (by kernel_rfl) (fun _ _ _ h => h) (Or.inl ⟨by rfl, ?_⟩) hHeld ?_ ?_
        rotate_left
        · rintro w' ⟨s0, s1, s2, s3⟩
          go_simp
          with_reducible rfl
        rotate_left
        · simp only [Act.put, List.setIfInBounds_toArray, List.set_cons_zero, List.set_cons_succ, i64_w, i32_w]
          rfl
        refine take_ (i := 5) (N := some 143) (v := ?_) (a' := ?_) #[true, true, true, true, true, true, false, false, true, false, false, false, false, false, false, false] rfl rfl (by kernel_rfl) (fun _ _ _ h => h) (Or.inl ⟨by rfl, ?_⟩) hHeld ?_ ?_
        rotate_left
        · rintro w' ⟨s0, s1, s2, s3⟩
          go_simp
          with_reducible rfl
        rotate_left
        · simp only [Act.put, List.setIfInBounds_toArray, List.set_cons_zero, List.set_cons_succ, i64_w, i32_w]
          rfl
        refine pure_ (i := 6) (N := some 144) (v := ?_) (a' := ?_) #[true, true, true, true, true, true, true, false, true, false, false, false, false, false, false, false] rfl rfl (by kernel_rfl) (fun _ _ _ h => h) (Or.inl ⟨by rfl, ?_⟩) ?_ ?_
        rotate_left
        · intro w'
          go_simp
          with_reducible rfl
        rotate_left
        · simp only [Act.put, List.setIfInBounds_toArray, List.set_cons_zero, List.set_cons_succ, i64_w, i32_w]
          rfl
        refine take_ (i := 7) (N := some 145) (v := ?_) (a' := ?_) #[true, true, true, true, true, true, true, true, true, false, false, false, false, false, false, false] rfl rfl (by kernel_rfl) (fun _ _ _ h => h) (Or.inl ⟨by rfl, ?_⟩) hHeld ?_ ?_
        rotate_left
        · rintro w' ⟨s0, s1, s2, s3⟩
          go_simp
          with_reducible rfl
        rotate_left
        · simp only [Act.put, List.setIfInBounds_toArray, List.set_cons_zero, List.set_cons_succ, i64_w, i32_w]
          rfl
        refine join_ (σ := (Option Addr × Nat) × Nat) 2 #[true, true, true, true, true, true, true, true, true, true, true, true, true, true, false, false] (fun s_ => [(147, .tuple #[.agg #[.slice s_.1.1 (takeP s.by_ lock (k : Int)).1.length s_.1.2], .int .i64 (takeP s.by_ lock (k : Int)).2]), (22, .pointer (some ⟨s_.2, 0, none⟩)), (137, .tuple #[.agg #[.slice s_.1.1 (takeP s.by_ lock (k : Int)).1.length s_.1.2], .int .i64 (takeP s.by_ lock (k : Int)).2]), (148, .agg #[.slice s_.1.1 (takeP s.by_ lock (k : Int)).1.length s_.1.2]), (149, .int .i64 (takeP s.by_ lock (k : Int)).2)]) (fun s_ w' => (w'.cell? ⟨b12, 0, none⟩ = some (.slice Ab s.by_.length cb) ∧ w'.cell? ⟨g, k * 3 + 2, none⟩ = some (.int .i64 (has0 : Int)) ∧ w'.cell? (ad2.add has0) = some (.int .i64 lock) ∧ Below w2.heap.size w2 w') ∧ Kd.R (Kd.int .i64) 3 w' w2.heap.size (fun _ => True) (.slice s_.1.1 (takeP s.by_ lock (k : Int)).1.length s_.1.2) (takeP s.by_ lock (k : Int)).1 ∧ w'.heap[s_.2]? = some (.cells #[.slice none 0 0] 24 (0, 0)) ∧ w2.heap.size ≤ s_.2) ?_ ?_
        rotate_left
        · intro hCont
          refine two_ (i := 9) (j := 13) (Ni := some 147) (Nj := some 22) #[true, true, true, true, true, true, true, true, true, true, false, false, false, false, false, false] #[true, true, true, true, true, true, true, true, true, false, false, false, false, true, false, false] rfl rfl rfl rfl (by kernel_rfl) (by decide) (by decide) (fun K hK => ?_) (fun K hK => ?_)
          · skip
            refine goes_ Try.func11 (by kernel_rfl) rfl #[.agg #[.slice Ab s.by_.length cb], .int .i64 lock, .int .i64 (k : Int)] (by rfl) rfl rfl (by simp only [List.map_toArray, List.map_cons, List.map_nil]; rfl) ?_
            with_reducible refine (locks_Take.calls Ab cb s.by_ lock (k : Int) (takeP s.by_ lock (k : Int)).1 (takeP s.by_ lock (k : Int)).2 _ (Kd.C_below HBR.out.2.2 hHeld.2.2.2) HBR.out.2.1 HG.out).mono ?_
            rintro e w3 ⟨v3, rfl, hR3, hB3⟩
            obtain ⟨A3, c3, rfl⟩ := Kd.R_slice hR3
            have hBn := below_step hHeld.2.2.2 hB3
            have hR2 := Kd.R_lower hR3 hHeld.2.2.2.size
            refine ⟨_, rfl, ?_⟩
            refine hK.out _ _ ⟨cell_kept_ hBn H0.out, cell_kept_ hBn H1.out, cell_kept_ hBn H2.out, hBn⟩ (fun hHeld => ?_)
            clear hK K
            refine norm_ (a' := ?_) ?_ ?_
            rotate_left
            · show Act.put _ (some 147) _ = _
              simp only [Act.put, List.setIfInBounds_toArray, List.set_cons_zero, List.set_cons_succ, i64_w, i32_w]
              rfl
            refine pure_ (i := 10) (N := some 137) (v := ?_) (a' := ?_) #[true, true, true, true, true, true, true, true, true, true, true, false, false, false, false, false] rfl rfl (by kernel_rfl) (fun _ _ _ h => h) (Or.inl ⟨by rfl, ?_⟩) ?_ ?_
            rotate_left
            · intro w'
              go_simp
              with_reducible rfl
            rotate_left
            · simp only [Act.put, List.setIfInBounds_toArray, List.set_cons_zero, List.set_cons_succ, i64_w, i32_w]
              rfl
            refine pure_ (i := 11) (N := some 148) (v := ?_) (a' := ?_) #[true, true, true, true, true, true, true, true, true, true, true, true, false, false, false, false] rfl rfl (by kernel_rfl) (fun _ _ _ h => h) (Or.inl ⟨by rfl, ?_⟩) ?_ ?_
            rotate_left
            · intro w'
              go_simp
              with_reducible rfl
            rotate_left
            · simp only [Act.put, List.setIfInBounds_toArray, List.set_cons_zero, List.set_cons_succ, i64_w, i32_w]
              rfl
            refine pure_ (i := 12) (N := some 149) (v := ?_) (a' := ?_) #[true, true, true, true, true, true, true, true, true, true, true, true, true, false, false, false] rfl rfl (by kernel_rfl) (fun _ _ _ h => h) (Or.inl ⟨by rfl, ?_⟩) ?_ ?_
            rotate_left
            · intro w'
              go_simp
              with_reducible rfl
            rotate_left
            · simp only [Act.put, List.setIfInBounds_toArray, List.set_cons_zero, List.set_cons_succ, i64_w, i32_w]
              rfl
            refine one_ (i := 13) (N := some 22) #[true, true, true, true, true, true, true, true, true, true, true, true, true, true, false, false] rfl rfl (by kernel_rfl) (by decide) (fun K hK => ?_)
            refine value_ (w1 := ?_) (v := ?_) (by rfl) rfl ?_ ?_
            rotate_left 2
            · go_simp
              constructor
              · rfl
              · rfl
            refine hK.out _ _ ⟨cell_kept_ (below_alloc hHeld.2.2.2 _) H0.out, cell_kept_ (below_alloc hHeld.2.2.2 _) H1.out, cell_kept_ (below_alloc hHeld.2.2.2 _) H2.out, (below_alloc hHeld.2.2.2 _)⟩ (fun hHeld => ?_)
            clear hK K
            refine norm_ (a' := ?_) ?_ ?_
            rotate_left
            · show Act.put _ (some 22) _ = _
              simp only [Act.put, List.setIfInBounds_toArray, List.set_cons_zero, List.set_cons_succ, i64_w, i32_w]
              rfl
            exact norm_ (by simp only [putAll, Act.put, List.setIfInBounds_toArray, List.set_cons_zero, List.set_cons_succ]) (hCont ((A3, c3), w3.heap.size) _ ⟨hHeld, Kd.R_alloc hR2 _, blk_new _ _, hBn.size⟩)
          · skip
            refine value_ (w1 := ?_) (v := ?_) (by rfl) rfl ?_ ?_
            rotate_left 2
            · go_simp
              constructor
              · rfl
              · rfl
            refine hK.out _ _ ⟨cell_kept_ (below_alloc hHeld.2.2.2 _) H0.out, cell_kept_ (below_alloc hHeld.2.2.2 _) H1.out, cell_kept_ (below_alloc hHeld.2.2.2 _) H2.out, (below_alloc hHeld.2.2.2 _)⟩ (fun hHeld => ?_)
            clear hK K
            refine norm_ (a' := ?_) ?_ ?_
            rotate_left
            · show Act.put _ (some 22) _ = _
              simp only [Act.put, List.setIfInBounds_toArray, List.set_cons_zero, List.set_cons_succ, i64_w, i32_w]
              rfl
            refine one_ (i := 9) (N := some 147) #[true, true, true, true, true, true, true, true, true, true, false, false, false, true, false, false] rfl rfl (by kernel_rfl) (by decide) (fun K hK => ?_)
            refine goes_ Try.func11 (by kernel_rfl) rfl #[.agg #[.slice Ab s.by_.length cb], .int .i64 lock, .int .i64 (k : Int)] (by rfl) rfl rfl (by simp only [List.map_toArray, List.map_cons, List.map_nil]; rfl) ?_
            with_reducible refine (locks_Take.calls Ab cb s.by_ lock (k : Int) (takeP s.by_ lock (k : Int)).1 (takeP s.by_ lock (k : Int)).2 _ (Kd.C_below HBR.out.2.2 hHeld.2.2.2) HBR.out.2.1 HG.out).mono ?_
            rintro e w3 ⟨v3, rfl, hR3, hB3⟩
            obtain ⟨A3, c3, rfl⟩ := Kd.R_slice hR3
            have hBn := below_step hHeld.2.2.2 hB3
            have hR2 := Kd.R_lower hR3 hHeld.2.2.2.size
            refine ⟨_, rfl, ?_⟩
            refine hK.out _ _ ⟨cell_kept_ hBn H0.out, cell_kept_ hBn H1.out, cell_kept_ hBn H2.out, hBn⟩ (fun hHeld => ?_)
            clear hK K
            refine norm_ (a' := ?_) ?_ ?_
            rotate_left
            · show Act.put _ (some 147) _ = _
              simp only [Act.put, List.setIfInBounds_toArray, List.set_cons_zero, List.set_cons_succ, i64_w, i32_w]
              rfl
            refine pure_ (i := 10) (N := some 137) (v := ?_) (a' := ?_) #[true, true, true, true, true, true, true, true, true, true, true, false, false, true, false, false] rfl rfl (by kernel_rfl) (fun _ _ _ h => h) (Or.inl ⟨by rfl, ?_⟩) ?_ ?_
            rotate_left
            · intro w'
              go_simp
              with_reducible rfl
            rotate_left
            · simp only [Act.put, List.setIfInBounds_toArray, List.set_cons_zero, List.set_cons_succ, i64_w, i32_w]
              rfl
            refine pure_ (i := 11) (N := some 148) (v := ?_) (a' := ?_) #[true, true, true, true, true, true, true, true, true, true, true, true, false, true, false, false] rfl rfl (by kernel_rfl) (fun _ _ _ h => h) (Or.inl ⟨by rfl, ?_⟩) ?_ ?_
            rotate_left
            · intro w'
              go_simp
              with_reducible rfl
            rotate_left
            · simp only [Act.put, List.setIfInBounds_toArray, List.set_cons_zero, List.set_cons_succ, i64_w, i32_w]
              rfl
            refine pure_ (i := 12) (N := some 149) (v := ?_) (a' := ?_) #[true, true, true, true, true, true, true, true, true, true, true, true, true, true, false, false] rfl rfl (by kernel_rfl) (fun _ _ _ h => h) (Or.inl ⟨by rfl, ?_⟩) ?_ ?_
            rotate_left
            · intro w'
              go_simp
              with_reducible rfl
            rotate_left
            · simp only [Act.put, List.setIfInBounds_toArray, List.set_cons_zero, List.set_cons_succ, i64_w, i32_w]
              rfl
            exact norm_ (by simp only [putAll, Act.put, List.setIfInBounds_toArray, List.set_cons_zero, List.set_cons_succ]) (hCont ((A3, c3), w2.heap.size) _ ⟨hHeld, hR2, blk_below (blk_new _ _) (below_step (below_drew (Below.refl _ _)) hB3), Nat.le_refl _⟩)
        rintro ⟨⟨A3, c3⟩, g22⟩ w9 ⟨hHeld, hR3, hblk, hge⟩
        have hc22 : w9.cell? ⟨g22, 0, none⟩ = some (.slice none 0 0) := blk_cell hblk 0
        have hf22 := blk_frozen hblk 0
        refine norm_ (a' := ?_) ?_ ?_
        rotate_left
        · simp only [putAll, Act.put, List.setIfInBounds_toArray, List.set_cons_zero, List.set_cons_succ]
          rfl
        refine one_ (i := 14) (N := none) #[true, true, true, true, true, true, true, true, true, true, true, true, true, true, true, false] rfl rfl (by kernel_rfl) (by decide) (fun K hK => ?_)
        refine skip_ (w1 := ?_) (by rfl) rfl ?_ ?_
        rotate_left
        · go_simp
          rfl
        refine hK.out _ _ ⟨cell_kept_ (hHeld.2.2.2.setCell (p := ⟨g22, 0, none⟩) hge _) H0.out, cell_kept_ (hHeld.2.2.2.setCell (p := ⟨g22, 0, none⟩) hge _) H1.out, cell_kept_ (hHeld.2.2.2.setCell (p := ⟨g22, 0, none⟩) hge _) H2.out, (hHeld.2.2.2.setCell (p := ⟨g22, 0, none⟩) hge _)⟩ (fun hHeld => ?_)
        clear hK K
        refine pure_ (i := 15) (N := some 23) (v := ?_) (a' := ?_) #[true, true, true, true, true, true, true, true, true, true, true, true, true, true, true, true] rfl rfl (by kernel_rfl) (fun _ _ _ h => h) (Or.inl ⟨by rfl, ?_⟩) ?_ ?_
        rotate_left
        · intro w'
          go_simp
          with_reducible rfl
        rotate_left
        · simp only [Act.put, List.setIfInBounds_toArray, List.set_cons_zero, List.set_cons_succ, i64_w, i32_w]
          rfl
        refine done_ (by kernel_rfl) ?_
        have hbB : Below w2.heap.size w2 (w9.setCell ⟨g22, 0, none⟩ (.slice A3 (takeP s.by_ lock (k : Int)).1.length c3)) := hHeld.2.2.2
        have hbR := Kd.R_set hR3 hblk (by simp [Kd.int, Kd.scalar]) 0 (.slice A3 (takeP s.by_ lock (k : Int)).1.length c3)
        have hcl : (w9.setCell ⟨g22, 0, none⟩ (.slice A3 (takeP s.by_ lock (k : Int)).1.length c3)).cell? ⟨g22, 0, none⟩ = some (.slice A3 (takeP s.by_ lock (k : Int)).1.length c3) := blk_cell (blk_set hblk 0 _) 0
        have HBB := Aside0.mk hbB
        have HBR3 := Aside0.mk hbR
        clear hHeld hc22 hf22 hR3 hblk
        generalize (w9.setCell ⟨g22, 0, none⟩ (.slice A3 (takeP s.by_ lock (k : Int)).1.length c3)) = W9 at HBB HBR3 hcl ⊢
        clear hbB hbR
        have HI9 := Aside0.mk (Inv.below' HI2.out HBB.out)
        have HIN := Aside0.mk (Inv.newBy HI2.out HBB.out HBR3.out)
        by_cases e0 : (takeP s.by_ lock (k : Int)).2 = 0
        · rw [if_pos e0] at HST
          obtain ⟨f0, f1, f2, z0, z1, z2⟩ := raw_read HIN.out.all k _ _ _ HROW.out
          have hc12 := blk_cell HI9.out.h12 0
          have hz12 := blk_frozen HI9.out.h12 0
          clear H0 H1 H2 HBR
          rw [e0]
          go_wp2
          have hal : s.all.length = l1.length := by have := HOK.out.all; rw [prs_length] at this; exact this
          have g1 : (s.all.set k (at0, has0 + 1)).getD k (0, 0) = (at0, has0 + 1) := by rw [getD_set_, if_pos ⟨rfl, by omega⟩]
          have I1 := Inv.setCell3 HIN.out k 2 hk (by omega) (.int .i64 ((has0 : Int) + 1)) rfl (s.all.set k (at0, has0 + 1)) _ HROW.out (by rw [List.length_set]; exact hal) ⟨v, HV.out, by rw [g1]; rfl⟩ (fun _ _ h => h) (fun j hj => by rw [getD_set_, if_neg (by omega)])
          go_step3
          refine ⟨rfl, ⟨i + 1, g, cap, b8, b12, vd, .slice A3 (takeP s.by_ lock (k : Int)).1.length c3, _, hlt, (show Fr _ _ _ _ _ _ _ _ (.int .i64 ((i : Int) + 1)) _ from .mk ..), (by rw [HSN.out hlt, HST.out]; exact I1)⟩, ?_⟩
          show l3.length - ((i : Int) + 1).toNat < l3.length - (i : Int).toNat
          omega
        · rw [if_neg e0] at HST
          have e1 : ((takeP s.by_ lock (k : Int)).2 == 0) = false := beq_eq_false_iff_ne.2 e0
          clear e0
          go_wp2
          go_step3
          refine ⟨rfl, ⟨i + 1, g, cap, b8, b12, vd, .slice Ab s.by_.length cb, rows, hlt, (show Fr _ _ _ _ _ _ _ _ (.int .i64 ((i : Int) + 1)) _ from .mk ..), (by rw [HSN.out hlt, HST.out]; exact HI9.out)⟩, ?_⟩
          show l3.length - ((i : Int) + 1).toNat < l3.length - (i : Int).toNat
          omega
      rw [if_neg c1] at HST
      have q4 : ((sc.length : Int) == 0) = false := beq_eq_false_iff_ne.2 (by omega)
      have q5 : ((has0 : Int) < (sc.length : Int)) = False := eq_false (by omega)
      go_wp2_with (go_at_call 36; (with_reducible refine (HCALL.out _ HI.out).mono ?_); rintro e w2 ⟨As, cs, rfl, hS, hB⟩; have HI2 := Aside0.mk (Inv.below' HI.out hB); have hS0 := Aside0.mk hS; obtain ⟨f0, f1, f2, z0, z1, z2⟩ := raw_read HI2.out.all k _ _ _ HROW.out; have HB := Aside0.mk hB; clear hS hB)
      have HS' := Aside0.mk hS0.out
      clear hS0 f0 f1 f2 z0 z1 z2 hcr
      go_loopw [98] (fun j wr => ∃ (n : Nat) (vb : Value), n ≤ sc.length ∧ j = .int .i64 n ∧ Aside0 (Inv w l1 l1.length g cap b8 b12 ⟨(sc.take n).foldl (fun b x => (giveP b x k).1) s.by_, s.all, s.done⟩ vd vb rows wr) ∧ Aside0 (Kd.R (Kd.int .i64) 3 wr w'.heap.size (fun _ => True) (.slice As sc.length cs) sc)) (fun j _ => sc.length - (intOf j).toNat)
      case atStart => exact ⟨0, vby, Nat.zero_le _, rfl, HI2, HS'⟩
      case round =>
        clear HI2 HS' HI HB
        obtain ⟨n, vb, hn, rfl, HI, HS⟩ := hrel
        by_cases hln : n < sc.length
        · obtain ⟨Ab, cb, rfl⟩ := Kd.R_slice HI.out.by_
          have hb65 : ((sc.take n).foldl (fun b x => (giveP b x (k : Int)).1) s.by_).length ≤ 65 := Nat.le_trans (gives_length _ _ _) HOK.out.by_
          have hsnoc : (sc.take (n + 1)).foldl (fun b x => (giveP b x (k : Int)).1) s.by_ = (giveP ((sc.take n).foldl (fun b x => (giveP b x (k : Int)).1) s.by_) (sc.getD n 0) k).1 := by
            rw [take_snoc_ sc n 0 hln, List.foldl_append]; rfl
          generalize (sc.take n).foldl (fun b x => (giveP b x (k : Int)).1) s.by_ = bj at HI hb65 hsnoc
          have HSN2 := Aside0.mk hsnoc
          clear hsnoc
          have hbr := (Kd.R_reads' HI.out.by_)
          have hbc := blk_cell HI.out.h12 0
          have hbf := blk_frozen HI.out.h12 0
          obtain ⟨ad2, c2, hA2, _, hK2, hc2⟩ := Kd.C_get (Kd.R_reads' HS.out).2.2 0 (n : Int) (by omega) (by omega)
          subst hA2
          rw [Int.toNat_natCast] at hK2 hc2
          have hc3 : wr.cell? (ad2.add n) = some (.int .i64 (sc.getD n 0)) := by
            have hq : wr.cell? (ad2.add (n * 1 + 0)) = some (.int .i64 (sc.getD n 0)) := hc2 0 (.int .i64 (sc.getD n 0)) (by rw [show c2 = [.int .i64 (sc.getD n 0)] from hK2]; rfl)
            rwa [Nat.mul_one, Nat.add_zero] at hq
          clear hK2 hc2
          have HG := Aside0.mk (give_f bj (sc.getD n 0) k hb65)
          have HBR := Aside0.mk hbr
          clear hbr
          have q6 : (n : Int) < (sc.length : Int) := by omega
          generalize sc.getD n 0 = lock at hc3 HG HSN2
          go_wp2_with (go_at_call 13; (with_reducible refine (locks_Give.calls Ab cb bj lock (k : Int) (giveP bj lock k).1 (giveP bj lock k).2 _ HBR.out.2.2 HBR.out.2.1 HG.out).mono ?_); rintro e w4 ⟨v4, rfl, hR4, hB4⟩; obtain ⟨A4, c4, rfl⟩ := Kd.R_slice hR4; have HR4 := Aside0.mk hR4; have HB4 := Aside0.mk hB4; have hbc4 := blk_cell (blk_below HI.out.h12 hB4) 0; have hbf4 := blk_frozen (blk_below HI.out.h12 hB4) 0; clear hR4 hB4)
          go_roundw
          case rel => exact ⟨n + 1, _, by omega, by simp, Aside0.mk (by rw [HSN2.out]; exact Inv.newBy HI.out HB4.out HR4.out), Aside0.mk (Kd.R_set (Kd.R_below HS.out HB4.out) (blk_below HI.out.h12 HB4.out) (by simp [Kd.int, Kd.scalar]) 0 _)⟩
          case measure =>
            show sc.length - ((n : Int) + 1).toNat < sc.length - (n : Int).toNat
            omega
        · have q6 : ¬ (n : Int) < (sc.length : Int) := by omega
          obtain rfl : n = sc.length := by omega
          rw [List.take_length] at HI
          have hdl := HOK.out.done
          go_wp2_with (first | ((with_reducible refine gate_builtin (b := .append) (xs := #[.tmp 110, .tmp 112]) rfl ?_); at_builtin; refine Kd.R_append (Kd.int .i64) (w0 := w) w.heap.size rfl (.tmp 110) (.tmp 112) 22 3 (.int .i64 0) 8 rfl Try.underlying22 info3 rfl (by decide) (by omega) vd s.done (k : Int) [.int .i64 (k : Int)] (fun _ => True) (fun _ => False) rfl rfl rfl (fun _ hk => hk.elim) (fun _ _ => trivial) HI.out.done HI.out.below HI.out.below.size (by omega) ?_; intro v5 w5 hR5 hB5 hg5 hat5; have HI5 := Aside0.mk (Inv.setDone HI.out hB5 hR5 hg5 hat5); obtain ⟨f0, f1, f2, z0, z1, z2⟩ := raw_read HI5.out.all k _ _ _ HROW.out; clear hR5 hB5 hg5 hat5))
          have hal : s.all.length = l1.length := by have := HOK.out.all; rw [prs_length] at this; exact this
          have g1 : (s.all.set k (at0 + 1, has0)).getD k (0, 0) = (at0 + 1, has0) := by rw [getD_set_, if_pos ⟨rfl, by omega⟩]
          have g2 : (s.all.set k (at0 + 1, 0)).getD k (0, 0) = (at0 + 1, 0) := by rw [getD_set_, if_pos ⟨rfl, by omega⟩]
          have hrl : k < rows.length := by have := (Kd.R_reads' HI5.out.all).1; omega
          have I1 := Inv.setCell3 HI5.out k 1 hk (by omega) (.int .i64 ((at0 : Int) + 1)) rfl (s.all.set k (at0 + 1, has0)) _ HROW.out (by rw [List.length_set]; exact hal) ⟨v, HV.out, by rw [g1]; rfl⟩ (fun _ _ h => h) (fun j hj => by rw [getD_set_, if_neg (by omega)])
          have I2 := Inv.setCell3 I1 k 2 hk (by omega) (.int .i64 0) rfl (s.all.set k (at0 + 1, 0)) _ (by rw [List.getElem?_set, if_pos rfl, if_pos hrl]) (by rw [List.length_set]; exact hal) ⟨v, HV.out, by rw [g2]; rfl⟩ (fun _ _ h => h) (fun j hj => by rw [getD_set_, if_neg (by omega), getD_set_, if_neg (by omega)])
          go_step3
          refine ⟨rfl, ⟨i + 1, g, cap, b8, b12, v5, vb, _, hlt, (show Fr _ _ _ _ _ _ _ _ (.int .i64 ((i : Int) + 1)) _ from .mk ..), (by rw [HSN.out hlt, HST.out]; exact I2)⟩, ?_⟩
          show l3.length - ((i : Int) + 1).toNat < l3.length - (i : Int).toNat
          omega
    · have hil : i = l3.length := by omega
      have q1 : ((i : Int) < (l3.length : Int)) = False := eq_false (by omega)
      have HSE := Aside0.mk (HEND.out hil)
      clear HEND
      go_wp2
      go_loopw [162, 26] (fun j vo wr => ∃ (n : Nat), n ≤ l1.length ∧ j = .int .i64 n ∧ Aside0 (Inv w l1 l1.length g cap b8 b12 s vd vby rows wr) ∧ Aside0 (Kd.S k52 52 wr w.heap.size (fun k => some k ≠ vby.ownBlock ∧ some k ≠ vd.ownBlock) vo (outs a2 l1 s.all n))) (fun j _ _ => l1.length - (intOf j).toNat)
      case atStart => exact ⟨0, Nat.zero_le _, rfl, HI, ⟨Kd.S_nil _ _ _ _ _⟩⟩
      case round =>
        clear HI
        obtain ⟨n, hn, rfl, HI, HO⟩ := hrel
        by_cases hln : n < l1.length
        · have q6 : ((n : Int) < (l1.length : Int)) = True := eq_true (by omega)
          obtain ⟨v, _, hrow⟩ := HI.out.rows n hln
          have HROW := Aside0.mk hrow
          clear hrow
          have hat := HOK.out.at_ n (by rw [prs_length]; exact hln)
          have hhas := HOK.out.has n (by rw [prs_length]; exact hln)
          have hsl := secAt_length a2 ((prs l1).getD n []) (s.all.getD n (0, 0)).1
          have HCALL := Aside0.mk (fun (w1 : World) (h : Inv w l1 l1.length g cap b8 b12 s vd vby rows w1) => sec_call h a2 n hln (Nat.le_refl _) HT.out hat)
          have hsuc : outs a2 l1 s.all (n + 1) = outs a2 l1 s.all n ++ [⟨(secAt a2 ((prs l1).getD n []) (s.all.getD n (0, 0)).1).take (s.all.getD n (0, 0)).2, if (s.all.getD n (0, 0)).2 < (secAt a2 ((prs l1).getD n []) (s.all.getD n (0, 0)).1).length then (secAt a2 ((prs l1).getD n []) (s.all.getD n (0, 0)).1).getD (s.all.getD n (0, 0)).2 0 else -1⟩] := outs_succ a2 l1 s.all n
          have HSUC := Aside0.mk hsuc
          clear hsuc hat
          generalize hat0 : (s.all.getD n (0, 0)).1 = at0 at HROW HCALL HSUC hhas hsl
          generalize hh0 : (s.all.getD n (0, 0)).2 = has0 at HROW HSUC hhas
          generalize secAt a2 ((prs l1).getD n []) at0 = sc at HCALL HSUC hhas hsl
          clear hat0 hh0
          have holen := outs_length a2 l1 s.all n
          generalize houts : outs a2 l1 s.all n = xs at HO HSUC holen
          have HOUTS := Aside0.mk houts
          clear houts
          have HSO := Aside0.mk (Kd.S_mono (Kd.S_bound HO.out) (ok' := fun k => (some k ≠ vby.ownBlock ∧ some k ≠ vd.ownBlock) ∧ k < wr.heap.size) fun k hk => ⟨hk.1, hk.2.2.1⟩)
          have HLB := Aside0.mk (Kd.R_lt HI.out.by_)
          have HLD := Aside0.mk (Kd.R_lt HI.out.done)
          have HLO := Aside0.mk (Kd.S_lt HO.out)
          have HGE := Aside0.mk HI.out.below.size
          clear HO
          have HOKP : Aside0 (∀ k, wr.heap.size ≤ k → (some k ≠ vby.ownBlock ∧ some k ≠ vd.ownBlock) ∧ some k ≠ u26.ownBlock) := ⟨fun k hk => ⟨⟨fun e => by have := HLB.out k e.symm; omega, fun e => by have := HLD.out k e.symm; omega⟩, fun e => by have := HLO.out k e.symm; omega⟩⟩
          by_cases c0 : sc.length = 0
          · obtain rfl := List.length_eq_zero_iff.1 c0
            obtain rfl : has0 = 0 := by simpa using hhas
            have HSUC := Aside0.mk (show outs a2 l1 s.all (n + 1) = xs ++ [(⟨[], -1⟩ : S52)] from HSUC.out)
            have q7 : (((0 : Nat) : Int) < 0) = False := eq_false (by omega)
            go_wp2_with (first
              | (go_at_call 36; (with_reducible refine (HCALL.out _ (Inv.below' HI.out (below_alloc (Below.refl _ _) _))).mono ?_); rintro e w2 ⟨As, cs, rfl, hS, hB⟩; have HB := Aside0.mk (below_step (below_alloc (Below.refl wr.heap.size wr) (.cells #[.slice none 0 0, .int .i64 (-1)] 52)) hB); have HI2 := Aside0.mk (Inv.below' HI.out HB.out); have HB28 := Aside0.mk (blk_below (blk_new wr (.cells #[.slice none 0 0, .int .i64 (-1)] 52)) hB); have hS0 := Aside0.mk hS; obtain ⟨f0, f1, f2, z0, z1, z2⟩ := raw_read HI2.out.all n _ _ _ HROW.out; have hc28 := blk_cell HB28.out 0; have hd28 := blk_cell HB28.out 1; have hz28 := blk_frozen HB28.out 0; have hy28 := blk_frozen HB28.out 1; clear hS hB; have HO9 := Aside0.mk (Kd.S_mono (Kd.S_below HSO.out HB.out) (ok' := fun k => (some k ≠ vby.ownBlock ∧ some k ≠ vd.ownBlock) ∧ ¬ wr.heap.size ≤ k) fun k hk => ⟨hk.1, by omega⟩))
              | ((with_reducible refine gate_builtin (b := .append) (xs := #[.tmp 199, .tmp 201]) rfl ?_); at_builtin; refine Kd.S_append k52 (w0 := w) w.heap.size rfl (.tmp 199) (.tmp 201) 34 52 (.agg #[(.slice none 0 0), (.int .i64 0)]) 32 rfl Try.underlying34 inf52_ rfl (by decide) (by omega) u26 xs (⟨[], -1⟩ : S52) [.slice none 0 0, .int .i64 (-1)] (fun k => some k ≠ vby.ownBlock ∧ some k ≠ vd.ownBlock) (fun k => wr.heap.size ≤ k) rfl rfl (k52_mkM _ _ _ (⟨[], -1⟩ : S52) (Kd.R_nil _ _ _ _ _)) HOKP.out (fun k hk => (HOKP.out k (Nat.le_trans HB.out.size hk)).1) HO9.out HI2.out.below HI2.out.below.size (by omega) ?_; intro v9 w9 hS9 hB9 hg9 _; have HI9 := Aside0.mk (Inv.setOut HI2.out (Kd.S_R HO9.out) hB9 hg9); have HS9 := Aside0.mk hS9; clear hS9 hB9 hg9))
            go_roundw
            case rel => exact ⟨n + 1, by omega, by simp, HI9, ⟨by rw [HSUC.out]; exact HS9.out⟩⟩
            case measure =>
              show l1.length - ((n : Int) + 1).toNat < l1.length - (n : Int).toNat
              omega
          obtain ⟨i0, hi0, _, hsz, _⟩ := info_parts info3
          have q8 : ((0 : Int) < (sc.length : Int)) = True := eq_true (by omega)
          by_cases c1 : has0 < sc.length
          · rw [if_pos c1] at HSUC
            generalize hlk : sc.getD has0 0 = lock at HSUC
            have HLK := Aside0.mk hlk
            clear hlk
            have b1 : (0 : Int) ≤ (has0 : Int) := by omega
            have b2 : (has0 : Int) < (sc.length : Int) := by omega
            have q7 : ((has0 : Int) < (sc.length : Int)) = True := eq_true (by omega)
            go_wp2_with (first
              | (go_at_call 36; (with_reducible refine (HCALL.out _ (Inv.below' HI.out (below_alloc (Below.refl _ _) _))).mono ?_); rintro e w2 ⟨As, cs, rfl, hS, hB⟩; have HB := Aside0.mk (below_step (below_alloc (Below.refl wr.heap.size wr) (.cells #[.slice none 0 0, .int .i64 (-1)] 52)) hB); have HI2 := Aside0.mk (Inv.below' HI.out HB.out); have HB28 := Aside0.mk (blk_below (blk_new wr (.cells #[.slice none 0 0, .int .i64 (-1)] 52)) hB); have hS0 := Aside0.mk hS; obtain ⟨f0, f1, f2, z0, z1, z2⟩ := raw_read HI2.out.all n _ _ _ HROW.out; have hc28 := blk_cell HB28.out 0; have hd28 := blk_cell HB28.out 1; have hz28 := blk_frozen HB28.out 0; have hy28 := blk_frozen HB28.out 1; clear hS hB; have hcsl := (Kd.R_reads' hS0.out).2.1; have hcut := cut_to (P := Try.prog) 22 3 .i64 Try.underlying22 hi0 As sc.length cs (has0 : Int) (by omega) (by omega) hcsl; rw [Int.toNat_natCast] at hcut; have HI3 := Aside0.mk (Inv.setOther HI2.out HB28.out HGE.out 0 (.slice As has0 cs)); have HB3 := Aside0.mk (show (w2.setCell ⟨wr.heap.size, 0, none⟩ (.slice As has0 cs)).heap[wr.heap.size]? = some (.cells #[.slice As has0 cs, .int .i64 (-1)] 52 (0, 0)) from blk_set HB28.out 0 _); obtain ⟨e0, e1, e2, y0, y1, y2⟩ := raw_read HI3.out.all n _ _ _ HROW.out; have hc38 := blk_cell HB3.out 0; have hd38 := blk_cell HB3.out 1; have hz38 := blk_frozen HB3.out 0; have hy38 := blk_frozen HB3.out 1; have HS3 := Aside0.mk (Kd.R_set hS0.out HB28.out (by simp [Kd.int, Kd.scalar]) 0 (.slice As has0 cs)); obtain ⟨ad2, cc2, hA2, _, hK2, hc2⟩ := Kd.C_get (Kd.R_reads' HS3.out).2.2 0 (has0 : Int) (by omega) (by omega); subst hA2; have hcl := el_cell_ hK2 hc2 HLK.out; clear hK2 hc2; have HI4 := Aside0.mk (Inv.setOther HI3.out HB3.out HGE.out 1 (.int .i64 lock)); have HB4 := Aside0.mk (show ((w2.setCell ⟨wr.heap.size, 0, none⟩ (.slice (some ad2) has0 cs)).setCell ⟨wr.heap.size, 1, none⟩ (.int .i64 lock)).heap[wr.heap.size]? = some (.cells #[.slice (some ad2) has0 cs, .int .i64 lock] 52 (0, 0)) from blk_set HB3.out 1 _); have hc48 := blk_cell HB4.out 0; have hd48 := blk_cell HB4.out 1; have HS4 := Aside0.mk (Kd.R_set HS3.out HB3.out (by simp [Kd.int, Kd.scalar]) 1 (.int .i64 lock)); have HO9 := Aside0.mk (s_not_ (s_far_ (s_far_ HSO.out HB.out 0 (.slice (some ad2) has0 cs)) (Below.refl _ _) 1 (.int .i64 lock))); have HSZ := Aside0.mk (size_set2_ HB.out ⟨wr.heap.size, 0, none⟩ (.slice (some ad2) has0 cs) ⟨wr.heap.size, 1, none⟩ (.int .i64 lock)); have HRW := Aside0.mk (row_new_ HGE.out (Kd.R_take HS4.out hhas)))
              | ((with_reducible refine gate_builtin (b := .append) (xs := #[.tmp 199, .tmp 201]) rfl ?_); at_builtin; refine Kd.S_append k52 (w0 := w) w.heap.size rfl (.tmp 199) (.tmp 201) 34 52 (.agg #[(.slice none 0 0), (.int .i64 0)]) 32 rfl Try.underlying34 inf52_ rfl (by decide) (by omega) u26 xs (⟨sc.take has0, lock⟩ : S52) [_, .int .i64 lock] (fun k => some k ≠ vby.ownBlock ∧ some k ≠ vd.ownBlock) (fun k => wr.heap.size ≤ k) rfl (by simp only [size_eq_]; rfl) (k52_mkM _ _ _ (⟨sc.take has0, lock⟩ : S52) HRW.out) HOKP.out (fun k hk => (HOKP.out k (Nat.le_trans HSZ.out hk)).1) HO9.out HI4.out.below HI4.out.below.size (by omega) ?_; intro v9 w9 hS9 hB9 hg9 _; have HI9 := Aside0.mk (Inv.setOut HI4.out (Kd.S_R HO9.out) hB9 hg9); have HS9 := Aside0.mk hS9; clear hS9 hB9 hg9))
            go_roundw
            case rel => exact ⟨n + 1, by omega, by simp, HI9, ⟨by rw [HSUC.out]; exact HS9.out⟩⟩
            case measure =>
              show l1.length - ((n : Int) + 1).toNat < l1.length - (n : Int).toNat
              omega
          · rw [if_neg c1] at HSUC
            have q7 : ((has0 : Int) < (sc.length : Int)) = False := eq_false (by omega)
            go_wp2_with (first
              | (go_at_call 36; (with_reducible refine (HCALL.out _ (Inv.below' HI.out (below_alloc (Below.refl _ _) _))).mono ?_); rintro e w2 ⟨As, cs, rfl, hS, hB⟩; have HB := Aside0.mk (below_step (below_alloc (Below.refl wr.heap.size wr) (.cells #[.slice none 0 0, .int .i64 (-1)] 52)) hB); have HI2 := Aside0.mk (Inv.below' HI.out HB.out); have HB28 := Aside0.mk (blk_below (blk_new wr (.cells #[.slice none 0 0, .int .i64 (-1)] 52)) hB); have hS0 := Aside0.mk hS; obtain ⟨f0, f1, f2, z0, z1, z2⟩ := raw_read HI2.out.all n _ _ _ HROW.out; have hc28 := blk_cell HB28.out 0; have hd28 := blk_cell HB28.out 1; have hz28 := blk_frozen HB28.out 0; have hy28 := blk_frozen HB28.out 1; clear hS hB; have hcsl := (Kd.R_reads' hS0.out).2.1; have hcut := cut_to (P := Try.prog) 22 3 .i64 Try.underlying22 hi0 As sc.length cs (has0 : Int) (by omega) (by omega) hcsl; rw [Int.toNat_natCast] at hcut; have HI3 := Aside0.mk (Inv.setOther HI2.out HB28.out HGE.out 0 (.slice As has0 cs)); have HB3 := Aside0.mk (show (w2.setCell ⟨wr.heap.size, 0, none⟩ (.slice As has0 cs)).heap[wr.heap.size]? = some (.cells #[.slice As has0 cs, .int .i64 (-1)] 52 (0, 0)) from blk_set HB28.out 0 _); obtain ⟨e0, e1, e2, y0, y1, y2⟩ := raw_read HI3.out.all n _ _ _ HROW.out; have hc38 := blk_cell HB3.out 0; have hd38 := blk_cell HB3.out 1; have hz38 := blk_frozen HB3.out 0; have hy38 := blk_frozen HB3.out 1; have HS3 := Aside0.mk (Kd.R_set hS0.out HB28.out (by simp [Kd.int, Kd.scalar]) 0 (.slice As has0 cs)); have HO9 := Aside0.mk (s_not_ (s_far_ HSO.out HB.out 0 (.slice As has0 cs))); have HSZ := Aside0.mk (size_set_ HB.out ⟨wr.heap.size, 0, none⟩ (.slice As has0 cs)); have HRW := Aside0.mk (row_new_ HGE.out (Kd.R_take HS3.out hhas)))
              | ((with_reducible refine gate_builtin (b := .append) (xs := #[.tmp 199, .tmp 201]) rfl ?_); at_builtin; refine Kd.S_append k52 (w0 := w) w.heap.size rfl (.tmp 199) (.tmp 201) 34 52 (.agg #[(.slice none 0 0), (.int .i64 0)]) 32 rfl Try.underlying34 inf52_ rfl (by decide) (by omega) u26 xs (⟨sc.take has0, -1⟩ : S52) [.slice As has0 cs, .int .i64 (-1)] (fun k => some k ≠ vby.ownBlock ∧ some k ≠ vd.ownBlock) (fun k => wr.heap.size ≤ k) rfl (by simp only [size_eq_]; rfl) (k52_mkM _ _ _ (⟨sc.take has0, -1⟩ : S52) HRW.out) HOKP.out (fun k hk => (HOKP.out k (Nat.le_trans HSZ.out hk)).1) HO9.out HI3.out.below HI3.out.below.size (by omega) ?_; intro v9 w9 hS9 hB9 hg9 _; have HI9 := Aside0.mk (Inv.setOut HI3.out (Kd.S_R HO9.out) hB9 hg9); have HS9 := Aside0.mk hS9; clear hS9 hB9 hg9))
            go_roundw
            case rel => exact ⟨n + 1, by omega, by simp, HI9, ⟨by rw [HSUC.out]; exact HS9.out⟩⟩
            case measure =>
              show l1.length - ((n : Int) + 1).toNat < l1.length - (n : Int).toNat
              omega
        · have q6 : ((n : Int) < (l1.length : Int)) = False := eq_false (by omega)
          obtain rfl : n = l1.length := by omega
          obtain ⟨Ab, cb, rfl⟩ := Kd.R_slice HI.out.by_
          have hc12 := blk_cell HI.out.h12 0
          have hz12 := blk_frozen HI.out.h12 0
          have hc8 := blk_cell HI.out.h8 0
          have hz8 := blk_frozen HI.out.h8 0
          have hbl := HI.out.below.setCell (p := ⟨b8, 0, none⟩) HI.out.ge8 (.slice Ab s.by_.length cb)
          have hrb := Kd.R_set HI.out.by_ HI.out.h8 (by simp [Kd.int, Kd.scalar]) 0 (.slice Ab s.by_.length cb)
          have hrd := Kd.R_set HI.out.done HI.out.h8 (by simp [Kd.int, Kd.scalar]) 0 (.slice Ab s.by_.length cb)
          have hso := Kd.S_set HO.out HI.out.h8 (by simp [k52, Kd.iso, Kd.pair, Kd.slice, Kd.int, Kd.scalar]) 0 (.slice Ab s.by_.length cb)
          have hcl8 : (wr.setCell ⟨b8, 0, none⟩ (.slice Ab s.by_.length cb)).cell? ⟨b8, 0, none⟩ = some (.slice Ab s.by_.length cb) := blk_cell (blk_set HI.out.h8 0 _) 0
          rw [outs_all] at hso
          have HF := Aside0.mk (And.intro hbl (And.intro hrb (And.intro hrd hso)))
          clear hbl hrb hrd hso
          go_wp2
          simp only [Exit.jump]
          refine bodyPost_ret (results_list (rs := [.cell 8 24, .tmp 9, .tmp 10, .tmp 11]) rfl (by simp) (.cell b8 24 #[.slice Ab s.by_.length cb] (0, 0) _ rfl (blk_set HI.out.h8 0 _) Try.underlying24 rfl (by kernel_rfl) (.tmp (.tmp (.tmp .nil))))) rfl ?_
          rw [← HSE.out]
          exact ⟨_, _, _, rfl, R_apart2_ (Kd.R_mono HF.out.2.1 (fun _ _ => trivial)) (fun k hk e => HF.out.2.1.1 k e.symm hk.symm), HF.out.2.2.2, R_apart2_ HF.out.2.2.1 (fun k hk => HF.out.2.1.1 k hk), HF.out.1⟩
  case first =>
    intro hpass
    have HP := Aside0.mk hpass
    clear hpass
    have HN := Aside0.mk (new_f a0)
    rw [if_neg (by omega), if_neg (by omega)] at HN
    obtain ⟨k35, hk35⟩ := right_f a0 l1 HT.out (by omega)
    rw [HRI.out] at hk35
    have HK35 := Aside0.mk hk35
    clear hk35
    have d1 : decide ((64 : Int) < (l1.length : Int)) = false := decide_eq_false (by omega)
    have d2 : decide ((20000 : Int) < (l3.length : Int)) = false := decide_eq_false (by omega)
    go_wp2_with (first
      | (go_at_call 15; (with_reducible refine (locks_New.calls a0 _ _ _ HN.out).mono ?_); rintro e w1 ⟨v1, rfl, hR, hB⟩; obtain ⟨Ab, cb, rfl⟩ := Kd.R_slice hR; have HRb := Aside0.mk hR; have HB1 := Aside0.mk (below_step (below_alloc (Below.refl w.heap.size w) _) hB); have HX1 := Aside0.mk hB; clear hR hB)
      | (go_at_call 35; (with_reducible refine (locks_right.calls k35 a0 A1 c1 l1 true _ (Kd.C_below HR1.out (below_alloc HB1.out _)) HC1.out HK35.out).mono ?_); rintro e w2 ⟨rfl, hB⟩; have HB2 := Aside0.mk (below_step (below_alloc HB1.out _) hB); have HS2 := Aside0.mk hB; clear hB)
      | ((with_reducible refine gate_dst (N := 58) rfl ?_); (refine Kd.R_make (Kd.raw 3) (w0 := w) w.heap.size 65 rfl (N := 58) rfl 63 (.tmp 57) (.tmp 57) rfl (l1.length : Int) rfl rfl Try.underlying63 (.agg #[.slice none 0 0, .int .i64 0, .int .i64 0]) 40 locks_Play.info65 rfl (by decide) (by decide) [.slice none 0 0, .int .i64 0, .int .i64 0] (ok := fun _ => True) (okp := fun _ => True) ⟨rfl, rfl, by simp [Value.cells, Value.oneCell']⟩ (fun _ _ => trivial) trivial (by omega) (by omega) HB2.out HB2.out.size ?_); intro v3 w3 hR hB hg hb; obtain ⟨gb, hgb, hge⟩ := hb; obtain ⟨g, cap, rfl⟩ := raw_form hR hgb; rw [List.length_replicate, Int.toNat_natCast] at hR; have HG := Aside0.mk (show w.heap.size ≤ g from Kd.R_base hR g rfl); have HRa := Aside0.mk hR; have HB3 := Aside0.mk hB; have HG3 := Aside0.mk hg; clear hR hB hg hgb hge))
    have INV : Inv w l1 0 g cap w.heap.size w1.heap.size (startP a0 l1.length) (.slice none 0 0) (.slice Ab a0.toNat cb) (List.replicate l1.length [.slice none 0 0, .int .i64 0, .int .i64 0]) w3 := by
      have g23 : Below w2.heap.size w2 w3 := ⟨HG3.out.os, HG3.out.tape, HG3.out.output, HG3.out.size, fun k hk => HG3.out.block k hk (by simp)⟩
      refine ⟨HB3.out, blk_below (blk_below (blk_below (blk_below (blk_new w _) HX1.out) (below_alloc (Below.refl _ _) _)) HS2.out) g23, blk_below (blk_below (blk_new w1 _) HS2.out) g23, ?_, Nat.le_refl _, HB1.out.size, HG.out, ?_, by simpa using HRa.out, Kd.R_nil _ _ _ _ _, by simp [startP], fun k hk => ?_⟩
      · have := HX1.out.size
        simp at this
        omega
      · have hb := HRb.out
        rw [List.length_replicate] at hb
        exact Kd.R_below (Kd.R_below (Kd.R_alloc (Kd.R_lower (Kd.R_mono hb fun k _ => by simp [Value.ownBlock]) (by simp)) _) HS2.out) g23
      · refine ⟨.slice none 0 0, fun h => absurd h (Nat.not_lt_zero _), ?_⟩
        have e : (startP a0 l1.length).all.getD k (0, 0) = (0, 0) := by simp only [startP, List.getD_eq_getElem?_getD, List.getElem?_replicate]; split <;> rfl
        rw [e, List.getElem?_replicate, if_pos hk]; rfl
    have HI := Aside0.mk INV
    clear INV HRb HB1 HB2 HS2 HX1 HRa HB3 HG3 HG HN HK35 HRI HT d1 d2
    generalize hb8 : w.heap.size = b8 at HI ⊢
    generalize hb12 : w1.heap.size = b12 at HI ⊢
    have HQ8 := Aside0.mk hb8
    clear hb8 hb12
    go_loopw [61] (fun i wr => ∃ (k : Nat) (rows : List (List Value)), k ≤ l1.length ∧ i = .int .i64 k ∧ Aside0 (Inv w l1 k g cap b8 b12 (startP a0 l1.length) (.slice none 0 0) (.slice Ab a0.toNat cb) rows wr)) (fun i _ => l1.length - (intOf i).toNat)
    case atStart => exact ⟨0, _, Nat.zero_le _, rfl, HI⟩
    case round =>
      clear HI
      obtain ⟨k, rows, hk, rfl, HI⟩ := hrel
      by_cases hlt : k < l1.length
      · obtain ⟨ad, Aj, cj, hA, hc, hjc, hjr⟩ := at_L5 HR1.out (k : Int) (by omega) (by omega)
        subst hA
        rw [Int.toNat_natCast] at hc
        have hcr : wr.cell? (ad.add k) = some (.slice Aj (rd_L5 l1 (k : Int)).length cj) := cell_kept_ HI.out.below hc
        obtain ⟨v, _, hrow⟩ := HI.out.rows k hlt
        obtain ⟨f0, f1, f2, z0, z1, z2⟩ := raw_read HI.out.all k _ _ _ hrow
        have q1 : (k : Int) < (l1.length : Int) := by omega
        have HJ := Aside0.mk hjr
        have HROW := Aside0.mk hrow
        clear hjr hrow hc hjc
        go_wp2
        refine ⟨⟨k + 1, _, by omega, by simp, Aside0.mk (Inv.setCell3 HI.out k 0 hlt (by omega) (.slice Aj (rd_L5 l1 (k : Int)).length cj) rfl _ _ HROW.out HI.out.len ⟨_, fun _ => ⟨_, _, rfl, HJ.out⟩, rfl⟩ (fun i hi h => by omega) (fun _ _ => rfl))⟩, ?_⟩
        simp only [intOf]
        omega
      · have q1 : ¬ (k : Int) < (l1.length : Int) := by omega
        obtain rfl : k = l1.length := by omega
        go_wp2
        go_step3
        rename_i hcont
        refine hcont _ _ (HP.out _ _ ⟨0, g, cap, b8, b12, _, _, rows, Nat.zero_le _, .mk .., HI.out⟩)
open Go.Proofs.Ytiidjnnagbfokaa.Lk
def locks_Play.f (a0 : Int) (l1 : List (List S55)) (a2 : Bool) (l3 : List Int) : Option (List Int × List S52 × List Int × Int) :=
  if l1.length ≤ 1000000 ∧ total l1 ≤ 1000000 then some ((playP a0 (prs l1) a2 l3).1, (playP a0 (prs l1) a2 l3).2.1.map (fun x => (⟨x.1, x.2⟩ : S52)), (playP a0 (prs l1) a2 l3).2.2.1, (playP a0 (prs l1) a2 l3).2.2.2) else none
set_option maxHeartbeats 4000000 in
set_option maxRecDepth 100000 in
theorem locks_Play.err1 (a0 : Int) (A1 : Option Addr) (c1 : Nat) (l1 : List (List S55)) (a2 : Bool) (A3 : Option Addr) (c3 : Nat) (l3 : List Int) (w : World) (c0 : a0 < 0 ∨ a0 > 65) :
    Calls Try.prog 23 #[.int .i64 a0, .slice A1 l1.length c1, .bool a2, .slice A3 l3.length c3] w fun e w' => e = .returned (.tuple #[.agg #[.slice none 0 0], .slice none 0 0, .slice none 0 0, .int .i64 1]) ∧ Below w.heap.size w w' := by
  have HN := Aside0.mk (new_f a0)
  rw [if_pos c0, if_pos c0] at HN
  clear c0
  go_enter Try.func23, Try.ntmps23
  go_wp2
  go_step3
  go_wp2_with (first
    | (go_at_call 15; (with_reducible refine (locks_New.calls a0 _ _ _ HN.out).mono ?_); rintro e w1 ⟨v1, rfl, hR, hB⟩; obtain ⟨Ab, cb, rfl⟩ := Kd.R_slice hR; have HB1 := Aside0.mk (below_step (below_alloc (Below.refl w.heap.size w) _) hB); have HB8 := Aside0.mk (blk_alloc (blk_below (blk_new w (.cells #[.slice none 0 0] 24)) hB) (.cells #[.slice Ab 0 cb] 24)); have hc8 := blk_cell HB8.out 0; have hz8 := blk_frozen HB8.out 0; clear hR hB))
  rw [Exit.noGoto_ret]
  refine bodyPost_ret (results_list (rs := [.cell 8 24, .tmp 9, .tmp 10, .tmp 11]) rfl (by simp) (.cell w.heap.size 24 #[.slice none 0 0] (0, 0) _ rfl (blk_set HB8.out 0 _) Try.underlying24 rfl (by kernel_rfl) (.tmp (.tmp (.tmp .nil))))) rfl ?_
  exact ⟨rfl, (below_alloc HB1.out _).setCell (p := ⟨w.heap.size, 0, none⟩) (Nat.le_refl _) _⟩
set_option maxHeartbeats 4000000 in
set_option maxRecDepth 100000 in
theorem locks_Play.err2 (a0 : Int) (A1 : Option Addr) (c1 : Nat) (l1 : List (List S55)) (a2 : Bool) (A3 : Option Addr) (c3 : Nat) (l3 : List Int) (w : World) (c0 : ¬ (a0 < 0 ∨ a0 > 65)) (c2 : l1.length > 64 ∨ l3.length > 20000) :
    Calls Try.prog 23 #[.int .i64 a0, .slice A1 l1.length c1, .bool a2, .slice A3 l3.length c3] w fun e w' => e = .returned (.tuple #[.agg #[.slice none 0 0], .slice none 0 0, .slice none 0 0, .int .i64 2]) ∧ Below w.heap.size w w' := by
  have HN := Aside0.mk (new_f a0)
  rw [if_neg c0, if_neg c0] at HN
  clear c0
  by_cases c3 : l1.length > 64
  · have d1 : decide ((64 : Int) < (l1.length : Int)) = true := decide_eq_true (by omega)
    clear c2
    go_enter Try.func23, Try.ntmps23
    go_wp2
    go_step3
    go_wp2_with (first
      | (go_at_call 15; (with_reducible refine (locks_New.calls a0 _ _ _ HN.out).mono ?_); rintro e w1 ⟨v1, rfl, hR, hB⟩; obtain ⟨Ab, cb, rfl⟩ := Kd.R_slice hR; have HB1 := Aside0.mk (below_step (below_alloc (Below.refl w.heap.size w) _) hB); have HB8 := Aside0.mk (blk_alloc (blk_below (blk_new w (.cells #[.slice none 0 0] 24)) hB) (.cells #[.slice Ab a0.toNat cb] 24)); have hc8 := blk_cell HB8.out 0; have hz8 := blk_frozen HB8.out 0; clear hR hB))
    rw [Exit.noGoto_ret]
    refine bodyPost_ret (results_list (rs := [.cell 8 24, .tmp 9, .tmp 10, .tmp 11]) rfl (by simp) (.cell w.heap.size 24 #[.slice none 0 0] (0, 0) _ rfl (blk_set HB8.out 0 _) Try.underlying24 rfl (by kernel_rfl) (.tmp (.tmp (.tmp .nil))))) rfl ?_
    exact ⟨rfl, (below_alloc HB1.out _).setCell (p := ⟨w.heap.size, 0, none⟩) (Nat.le_refl _) _⟩
  · have d1 : decide ((64 : Int) < (l1.length : Int)) = false := decide_eq_false (by omega)
    have d2 : decide ((20000 : Int) < (l3.length : Int)) = true := decide_eq_true (by omega)
    clear c2
    go_enter Try.func23, Try.ntmps23
    go_wp2
    go_step3
    go_wp2_with (first
      | (go_at_call 15; (with_reducible refine (locks_New.calls a0 _ _ _ HN.out).mono ?_); rintro e w1 ⟨v1, rfl, hR, hB⟩; obtain ⟨Ab, cb, rfl⟩ := Kd.R_slice hR; have HB1 := Aside0.mk (below_step (below_alloc (Below.refl w.heap.size w) _) hB); have HB8 := Aside0.mk (blk_alloc (blk_below (blk_new w (.cells #[.slice none 0 0] 24)) hB) (.cells #[.slice Ab a0.toNat cb] 24)); have hc8 := blk_cell HB8.out 0; have hz8 := blk_frozen HB8.out 0; clear hR hB))
    rw [Exit.noGoto_ret]
    refine bodyPost_ret (results_list (rs := [.cell 8 24, .tmp 9, .tmp 10, .tmp 11]) rfl (by simp) (.cell w.heap.size 24 #[.slice none 0 0] (0, 0) _ rfl (blk_set HB8.out 0 _) Try.underlying24 rfl (by kernel_rfl) (.tmp (.tmp (.tmp .nil))))) rfl ?_
    exact ⟨rfl, (below_alloc HB1.out _).setCell (p := ⟨w.heap.size, 0, none⟩) (Nat.le_refl _) _⟩
set_option maxHeartbeats 4000000 in
set_option maxRecDepth 100000 in
theorem locks_Play.err3 (a0 : Int) (A1 : Option Addr) (c1 : Nat) (l1 : List (List S55)) (a2 : Bool) (A3 : Option Addr) (c3 : Nat) (l3 : List Int) (w : World) (hr1 : Kd.C (Kd.slice 55 k55) w A1 l1.length l1) (hc1 : l1.length ≤ c1) (c0 : ¬ (a0 < 0 ∨ a0 > 65)) (c2 : ¬ (l1.length > 64 ∨ l3.length > 20000)) (ht : total l1 ≤ 1000000) (hri : rightP a0 (prs l1) = false) :
    Calls Try.prog 23 #[.int .i64 a0, .slice A1 l1.length c1, .bool a2, .slice A3 l3.length c3] w fun e w' => e = .returned (.tuple #[.agg #[.slice none 0 0], .slice none 0 0, .slice none 0 0, .int .i64 1]) ∧ Below w.heap.size w w' := by
  have HN := Aside0.mk (new_f a0)
  rw [if_neg c0, if_neg c0] at HN
  clear c0
  obtain ⟨k35, hk35⟩ := right_f a0 l1 ht (by omega)
  rw [hri] at hk35
  have HK35 := Aside0.mk hk35
  have HR1 := Aside0.mk hr1
  have HC1 := Aside0.mk hc1
  have d1 : decide ((64 : Int) < (l1.length : Int)) = false := decide_eq_false (by omega)
  have d2 : decide ((20000 : Int) < (l3.length : Int)) = false := decide_eq_false (by omega)
  clear hk35 hr1 hc1 hri ht c2
  go_enter Try.func23, Try.ntmps23
  go_wp2
  go_step3
  go_wp2_with (first
    | (go_at_call 15; (with_reducible refine (locks_New.calls a0 _ _ _ HN.out).mono ?_); rintro e w1 ⟨v1, rfl, hR, hB⟩; obtain ⟨Ab, cb, rfl⟩ := Kd.R_slice hR; have HB1 := Aside0.mk (below_step (below_alloc (Below.refl w.heap.size w) _) hB); have HB8 := Aside0.mk (blk_alloc (blk_below (blk_new w (.cells #[.slice none 0 0] 24)) hB) (.cells #[.slice Ab a0.toNat cb] 24)); have hc8 := blk_cell HB8.out 0; have hz8 := blk_frozen HB8.out 0; clear hR hB)
    | (go_at_call 35; (with_reducible refine (locks_right.calls k35 a0 A1 c1 l1 false _ (Kd.C_below HR1.out (below_alloc HB1.out _)) HC1.out HK35.out).mono ?_); rintro e w2 ⟨rfl, hB⟩; have HB2 := Aside0.mk (below_step (below_alloc HB1.out _) hB); have HB9 := Aside0.mk (blk_below HB8.out hB); clear hc8 hz8; have hc8 := blk_cell HB9.out 0; have hz8 := blk_frozen HB9.out 0; clear hB))
  rw [Exit.noGoto_ret]
  refine bodyPost_ret (results_list (rs := [.cell 8 24, .tmp 9, .tmp 10, .tmp 11]) rfl (by simp) (.cell w.heap.size 24 #[.slice none 0 0] (0, 0) _ rfl (blk_set HB9.out 0 _) Try.underlying24 rfl (by kernel_rfl) (.tmp (.tmp (.tmp .nil))))) rfl ?_
  exact ⟨rfl, (HB2.out).setCell (p := ⟨w.heap.size, 0, none⟩) (Nat.le_refl _) _⟩
set_option maxHeartbeats 8000000 in
set_option maxRecDepth 100000 in
theorem locks_Play.calls (a0 : Int) (A1 : Option Addr) (c1 : Nat) (l1 : List (List S55)) (a2 : Bool) (A3 : Option Addr) (c3 : Nat) (l3 : List Int) (r1 : List Int) (r2 : List S52) (r3 : List Int) (r4 : Int) (w : World)
    (hr1 : Kd.C (Kd.slice 55 k55) w A1 l1.length l1) (hc1 : l1.length ≤ c1) (hr3 : Kd.C (Kd.int .i64) w A3 l3.length l3) (hc3 : l3.length ≤ c3) (h : locks_Play.f a0 l1 a2 l3 = some (r1, r2, r3, r4)) :
    Calls Try.prog 23 #[.int .i64 a0, .slice A1 l1.length c1, .bool a2, .slice A3 l3.length c3] w fun e w' => ∃ v0_ v1_ v2_ : Value, e = .returned (.tuple #[.agg #[v0_], v1_, v2_, .int .i64 r4]) ∧
      Kd.R (Kd.int .i64) 3 w' w.heap.size (fun k_ => some k_ ≠ (v2_ : Value).ownBlock) v0_ r1 ∧ Kd.S k52 52 w' w.heap.size (fun k_ => some k_ ≠ (v0_ : Value).ownBlock ∧ some k_ ≠ (v2_ : Value).ownBlock) v1_ r2 ∧ Kd.R (Kd.int .i64) 3 w' w.heap.size (fun k_ => some k_ ≠ (v0_ : Value).ownBlock) v2_ r3 ∧ Below w.heap.size w w' := by
  unfold locks_Play.f at h
  by_cases c : l1.length ≤ 1000000 ∧ total l1 ≤ 1000000
  case neg => rw [if_neg c] at h; cases h
  rw [if_pos c] at h
  have h := Option.some.inj h
  obtain ⟨cj, ct⟩ := c
  by_cases c0 : a0 < 0 ∨ a0 > 65
  · have e : playP a0 (prs l1) a2 l3 = ([], [], [], 1) := by unfold playP; rw [if_pos c0]
    rw [e] at h
    simp only [List.map_nil, Prod.mk.injEq] at h
    obtain ⟨rfl, rfl, rfl, rfl⟩ := h
    refine (locks_Play.err1 a0 A1 c1 l1 a2 A3 c3 l3 w c0).mono ?_
    rintro e' w' ⟨rfl, hB⟩
    exact ⟨_, _, _, rfl, Kd.R_nil _ _ _ _ _, Kd.S_nil _ _ _ _ _, Kd.R_nil _ _ _ _ _, hB⟩
  by_cases c1' : l1.length > 64 ∨ l3.length > 20000
  · have e : playP a0 (prs l1) a2 l3 = ([], [], [], 2) := by unfold playP; rw [if_neg c0, if_pos (by rw [prs_length]; exact c1')]
    rw [e] at h
    simp only [List.map_nil, Prod.mk.injEq] at h
    obtain ⟨rfl, rfl, rfl, rfl⟩ := h
    refine (locks_Play.err2 a0 A1 c1 l1 a2 A3 c3 l3 w c0 c1').mono ?_
    rintro e' w' ⟨rfl, hB⟩
    exact ⟨_, _, _, rfl, Kd.R_nil _ _ _ _ _, Kd.S_nil _ _ _ _ _, Kd.R_nil _ _ _ _ _, hB⟩
  by_cases c2 : rightP a0 (prs l1) = true
  · have e : playP a0 (prs l1) a2 l3 = ((playsP a0 (prs l1) a2 l3).by_, outP a2 (prs l1) (playsP a0 (prs l1) a2 l3).all, (playsP a0 (prs l1) a2 l3).done, 0) := by unfold playP; rw [if_neg c0, if_neg (by rw [prs_length]; exact c1'), if_neg (by rw [c2]; simp)]
    rw [e] at h
    simp only [Prod.mk.injEq] at h
    obtain ⟨rfl, rfl, rfl, rfl⟩ := h
    exact locks_Play.main a0 A1 c1 l1 a2 A3 c3 l3 w hr1 hc1 hr3 hc3 ct (by omega) (by omega) (by omega) (by omega) c2
  · have e : playP a0 (prs l1) a2 l3 = ([], [], [], 1) := by unfold playP; rw [if_neg c0, if_neg (by rw [prs_length]; exact c1'), if_pos (by simpa using c2)]
    rw [e] at h
    simp only [List.map_nil, Prod.mk.injEq] at h
    obtain ⟨rfl, rfl, rfl, rfl⟩ := h
    refine (locks_Play.err3 a0 A1 c1 l1 a2 A3 c3 l3 w hr1 hc1 c0 c1' ct (by simpa using c2)).mono ?_
    rintro e' w' ⟨rfl, hB⟩
    exact ⟨_, _, _, rfl, Kd.R_nil _ _ _ _ _, Kd.S_nil _ _ _ _ _, Kd.R_nil _ _ _ _ _, hB⟩


end Go.Proofs.Ytiidjnnagbfokaa.QLocksEnds
