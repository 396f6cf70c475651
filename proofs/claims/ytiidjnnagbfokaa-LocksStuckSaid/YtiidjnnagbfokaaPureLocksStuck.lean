/- Who of any waiters is stuck, or why it can't be told, is what the document says; no condition. -/
import Derived.Test.YtiidjnnagbfokaaQLocksStuckx1
import Derived.Test.YtiidjnnagbfokaaQLocksStuckx4
import Derived.Test.YtiidjnnagbfokaaQLocksStuckx5
import Derived.Test.YtiidjnnagbfokaaQLocksStuckx6
namespace Go.Proofs.Ytiidjnnagbfokaa.QLocksStuck
open Go Go.RowKit Go.Proofs.Ytiidjnnagbfokaa.Lk Go.Proofs.YtiidjnnagbfokaaW.PrintWords Go.Proofs.YtiidjnnagbfokaaW.PrintLast Go.Proofs.YtiidjnnagbfokaaW.PrintMore
set_option linter.unusedVariables false
/-- Enough rounds tell r -/
def Evt {β : Type} (g : Nat → Option β) (r : β) : Prop := ∃ K, ∀ k, K ≤ k → g k = some r
theorem Evt.step {β : Type} {g h : Nat → Option β} {r : β} (he : Evt h r) (hs : ∀ k, g (k + 1) = h k) : Evt g r := by
  obtain ⟨K, hK⟩ := he
  refine ⟨K + 1, fun k hk => ?_⟩
  obtain ⟨k, rfl⟩ : ∃ m, k = m + 1 := ⟨k - 1, by omega⟩
  rw [hs]
  exact hK k (by omega)
theorem Evt.bind {α β : Type} {g : Nat → Option α} {h : Nat → α → Option β} {a : α} {r : β} (hg : Evt g a) (hh : Evt (fun k => h k a) r) : Evt (fun k => (g k).bind (h k)) r := by
  obtain ⟨K, hK⟩ := hg
  obtain ⟨K2, hK2⟩ := hh
  refine ⟨max K K2, fun k hk => ?_⟩
  show (g k).bind (h k) = some r
  rw [hK k (by omega), Option.bind_some]
  exact hK2 k (by omega)
theorem Evt.now {β : Type} (r : β) : Evt (fun _ => some r) r := ⟨0, fun _ _ => rfl⟩
theorem ints_l0 (l : List Int) (h : l.length ≤ 1000000) : ∀ (d i : Nat), d + i = l.length → Evt (fun k => turnspitref04_Ints.l0 k l l (i : Int)) true
  | 0, i, hi => Evt.step (Evt.now true) fun k => by rw [turnspitref04_Ints.l0, if_neg (by omega)]
  | d + 1, i, hi => by
    have hw : wrap64 ((i : Int) + 1) = ((i + 1 : Nat) : Int) := by unfold wrap64; omega
    refine Evt.step (ints_l0 l h d (i + 1) (by omega)) fun k => ?_
    rw [turnspitref04_Ints.l0, if_pos (by omega), if_pos (by omega), if_pos (by omega), if_pos rfl, hw]
theorem ints_f (l : List Int) (h : l.length ≤ 1000000) : Evt (fun k => turnspitref04_Ints.f k l l) true := by
  obtain ⟨K, hK⟩ := ints_l0 l h l.length 0 (by omega)
  exact ⟨K, fun k hk => by show turnspitref04_Ints.f k l l = some true; unfold turnspitref04_Ints.f; rw [if_pos rfl]; exact hK k hk⟩
theorem in_l0 (l : List Int) (a : Int) (h : l.length ≤ 1000000) : ∀ (d i : Nat), d + i = l.length → Evt (fun k => turnspitref11_in.l0 k l a (i : Int)) (decide (a ∈ l.drop i))
  | 0, i, hi => by
    rw [List.drop_eq_nil_of_le (by omega)]
    exact Evt.step (Evt.now _) fun k => by rw [turnspitref11_in.l0, if_neg (by omega)]; simp
  | d + 1, i, hi => by
    have hw : wrap64 ((i : Int) + 1) = ((i + 1 : Nat) : Int) := by unfold wrap64; omega
    have hg : rd l (i : Int) = l[i] := by rw [rd, Int.toNat_natCast, List.getD_eq_getElem?_getD, List.getElem?_eq_getElem (by omega)]; rfl
    by_cases e : l[i] = a
    · rw [show decide (a ∈ l.drop i) = true from decide_eq_true (by rw [List.drop_eq_getElem_cons (by omega), e]; exact List.mem_cons_self)]
      exact Evt.step (Evt.now _) fun k => by rw [turnspitref11_in.l0, if_pos (by omega), if_pos (by omega), hg, if_pos e]
    · have e2 : (a ∈ l.drop i) ↔ (a ∈ l.drop (i + 1)) := by
        rw [List.drop_eq_getElem_cons (by omega), List.mem_cons]
        exact ⟨fun h => h.elim (fun h => absurd h.symm e) id, Or.inr⟩
      rw [decide_eq_decide.2 e2]
      exact Evt.step (in_l0 l a h d (i + 1) (by omega)) fun k => by rw [turnspitref11_in.l0, if_pos (by omega), if_pos (by omega), hg, if_neg e, hw]
theorem in_f (l : List Int) (a : Int) (h : l.length ≤ 1000000) : Evt (fun k => turnspitref11_in.f k l a) (decide (a ∈ l)) := by
  have := in_l0 l a h l.length 0 (by omega)
  rwa [List.drop_zero] at this
section
variable (l : List S52)
def hd (k : Nat) : List Int := (rd_T52 l (k : Int)).f0
def wt (k : Nat) : Int := (rd_T52 l (k : Int)).f1
/-- The first of a set that has a lock; below 0: nobody -/
def hP (a : Int) : List Nat → Int
  | [] => -1
  | j :: t => if a ∈ hd l j then (j : Int) else hP a t
theorem hP_nonneg (a : Int) : ∀ s : List Nat, hP l a s ≥ 0 ↔ ∃ j ∈ s, a ∈ hd l j
  | [] => by simp [hP]
  | j :: t => by
    unfold hP
    by_cases c : a ∈ hd l j
    · rw [if_pos c]
      exact ⟨fun _ => ⟨j, List.mem_cons_self, c⟩, fun _ => by omega⟩
    · rw [if_neg c, hP_nonneg a t]
      constructor
      · rintro ⟨i, h1, h2⟩
        exact ⟨i, List.mem_cons_of_mem _ h1, h2⟩
      · rintro ⟨i, h1, h2⟩
        rcases List.mem_cons.1 h1 with rfl | h
        · exact absurd h2 c
        · exact ⟨i, h, h2⟩
def castL (s : List Nat) : List Int := s.map fun (k : Nat) => (k : Int)
theorem castL_length (s : List Nat) : (castL s).length = s.length := List.length_map ..
theorem castL_rd (s : List Nat) (i : Nat) (h : i < s.length) : rd (castL s) (i : Int) = ((s[i] : Nat) : Int) := by
  rw [rd, Int.toNat_natCast, List.getD_eq_getElem?_getD, castL, List.getElem?_map, List.getElem?_eq_getElem h]; rfl
variable {l}
variable (hh : ∀ k, k < l.length → (hd l k).length ≤ 1000)
include hh
theorem holder_l0 (a : Int) (s : List Nat) (hs : ∀ j ∈ s, j < l.length) (hsl : s.length ≤ 64) : ∀ (d i : Nat), d + i = s.length → Evt (fun k => turnspitref11_holder.l0 k l (castL s) a (i : Int)) (hP l a (s.drop i))
  | 0, i, hi => by
    rw [List.drop_eq_nil_of_le (by omega)]
    exact Evt.step (Evt.now _) fun k => by rw [turnspitref11_holder.l0, if_neg (by rw [castL_length]; omega)]; rfl
  | d + 1, i, hi => by
    have hw : wrap64 ((i : Int) + 1) = ((i + 1 : Nat) : Int) := by unfold wrap64; omega
    have hj := hs s[i] (List.getElem_mem (by omega))
    rw [List.drop_eq_getElem_cons (by omega), hP]
    refine Evt.step (h := fun k => (turnspitref11_in.f k (hd l s[i]) a).bind fun t => if t = true then some ((s[i] : Nat) : Int) else turnspitref11_holder.l0 k l (castL s) a ((i + 1 : Nat) : Int)) ?_ fun k => by
      rw [turnspitref11_holder.l0, if_pos (by rw [castL_length]; omega), if_pos (by omega), castL_rd s i (by omega), if_pos (by omega), if_pos (by omega), hw]; rfl
    refine Evt.bind (in_f _ a (by have := hh _ hj; omega)) ?_
    by_cases c : a ∈ hd l s[i]
    · simp only [decide_eq_true c, if_pos c, if_true]
      exact Evt.now _
    · simp only [decide_eq_false c, if_neg c]
      exact holder_l0 a s hs hsl d (i + 1) (by omega)
theorem holder_f (a : Int) (s : List Nat) (hs : ∀ j ∈ s, j < l.length) (hsl : s.length ≤ 64) : Evt (fun k => turnspitref11_holder.f k l (castL s) a) (hP l a s) := by
  have := holder_l0 hh a s hs hsl s.length 0 (by omega)
  rwa [List.drop_zero] at this
omit hh in
variable (l) in
def keep (s : List Nat) (k : Nat) : Bool := decide (wt l k ≥ 0 ∧ hP l (wt l k) s ≥ 0)
theorem l3_step (s : List Nat) (hs : ∀ j ∈ s, j < l.length) (hsl : s.length ≤ 64) (r : List Int × Int) : ∀ (d i : Nat) (more : Bool) (nx : List Nat), d + i = s.length → nx.length ≤ i →
    Evt (fun k => turnspitref11_Stuck.l2 k l (castL (nx ++ (s.drop i).filter (keep l s))) (more || !(s.drop i).all (keep l s))) r → Evt (fun k => turnspitref11_Stuck.l3 k l (castL s) more (castL nx) (i : Int)) r
  | 0, i, more, nx, hi, hnx, h => by
    rw [List.drop_eq_nil_of_le (by omega)] at h
    simp only [List.filter_nil, List.append_nil, List.all_nil, Bool.not_true, Bool.or_false] at h
    exact Evt.step h fun k => by rw [turnspitref11_Stuck.l3, if_neg (by rw [castL_length]; omega)]
  | d + 1, i, more, nx, hi, hnx, h => by
    have hw : wrap64 ((i : Int) + 1) = ((i + 1 : Nat) : Int) := by unfold wrap64; omega
    have hj := hs s[i] (List.getElem_mem (by omega))
    refine Evt.step (h := fun k => (turnspitref11_holder.f k l (castL s) (wt l s[i])).bind fun t => if wt l s[i] ≥ 0 then (if t ≥ 0 then (if (castL nx).length < 17592186044416 then turnspitref11_Stuck.l3 k l (castL s) more (castL nx ++ [((s[i] : Nat) : Int)]) ((i + 1 : Nat) : Int) else none) else turnspitref11_Stuck.l3 k l (castL s) true (castL nx) ((i + 1 : Nat) : Int)) else turnspitref11_Stuck.l3 k l (castL s) true (castL nx) ((i + 1 : Nat) : Int)) ?_ fun k => by
      rw [turnspitref11_Stuck.l3, if_pos (by rw [castL_length]; omega), if_pos (by omega), castL_rd s i (by omega), if_pos (by omega), if_pos (by omega), hw]; rfl
    refine Evt.bind (holder_f hh _ s hs hsl) ?_
    rw [List.drop_eq_getElem_cons (by omega), List.filter_cons, List.all_cons] at h
    by_cases c1 : wt l s[i] ≥ 0
    · by_cases c2 : hP l (wt l s[i]) s ≥ 0
      · have hk : keep l s s[i] = true := decide_eq_true ⟨c1, c2⟩
        rw [if_pos hk, hk, Bool.true_and] at h
        simp only [if_pos c1, if_pos c2, if_pos (show (castL nx).length < 17592186044416 by rw [castL_length]; omega)]
        have e : castL nx ++ [((s[i] : Nat) : Int)] = castL (nx ++ [s[i]]) := by simp [castL]
        rw [e]
        refine l3_step s hs hsl r d (i + 1) more (nx ++ [s[i]]) (by omega) (by simp; omega) ?_
        rw [List.append_assoc]
        exact h
      · have hk : keep l s s[i] = false := decide_eq_false fun h => c2 h.2
        rw [hk] at h
        simp only [Bool.false_eq_true, if_false, Bool.false_and, Bool.not_false, Bool.or_true] at h
        simp only [if_pos c1, if_neg c2]
        refine l3_step s hs hsl r d (i + 1) true nx (by omega) (by omega) ?_
        rw [Bool.true_or]
        exact h
    · have hk : keep l s s[i] = false := decide_eq_false fun h => c1 h.1
      rw [hk] at h
      simp only [Bool.false_eq_true, if_false, Bool.false_and, Bool.not_false, Bool.or_true] at h
      simp only [if_neg c1]
      refine l3_step s hs hsl r d (i + 1) true nx (by omega) (by omega) ?_
      rw [Bool.true_or]
      exact h
omit hh in
variable (l) in
def Post (Y : Nat → Prop) : Prop := ∀ k, Y k → wt l k ≥ 0 ∧ ∃ j, Y j ∧ j < l.length ∧ wt l k ∈ hd l j
theorem l2_end : ∀ (m : Nat) (s : List Nat), s.length ≤ m → (∀ j ∈ s, j < l.length) → s.length ≤ 64 → (∃ P : Nat → Bool, s = (List.range l.length).filter P) → (∀ Y, Post l Y → ∀ k, Y k → k < l.length → k ∈ s) →
    ∃ s', Evt (fun k => turnspitref11_Stuck.l2 k l (castL s) true) (castL s', 0) ∧ (∃ P : Nat → Bool, s' = (List.range l.length).filter P) ∧ (∀ Y, Post l Y → ∀ k, Y k → k < l.length → k ∈ s') ∧ Post l (fun k => k ∈ s')
  | m, s, hm, hs, hsl, hP1, hY => by
    obtain ⟨P, hPe⟩ := hP1
    by_cases c : s.all (keep l s) = true
    · refine ⟨s, ?_, ⟨P, hPe⟩, hY, fun k hk => ?_⟩
      · refine Evt.step (h := fun k => turnspitref11_Stuck.l3 k l (castL s) false (castL []) ((0 : Nat) : Int)) ?_ fun k => by rw [turnspitref11_Stuck.l2, if_pos rfl]; rfl
        refine l3_step hh s hs hsl _ s.length 0 false [] (by omega) (by simp) ?_
        rw [List.drop_zero, c, List.nil_append, List.filter_eq_self.2 (fun a ha => List.all_eq_true.1 c a ha)]
        exact Evt.step (Evt.now _) fun k => by rw [turnspitref11_Stuck.l2]; rfl
      · have := List.all_eq_true.1 c k hk
        unfold keep at this
        have h2 := of_decide_eq_true this
        obtain ⟨j, h3, h4⟩ := (hP_nonneg l _ s).1 h2.2
        exact ⟨h2.1, j, h3, hs j h3, h4⟩
    · have hlt : (s.filter (keep l s)).length < s.length := by
        apply Nat.lt_of_le_of_ne (List.length_filter_le _ _)
        intro he
        apply c
        rw [List.all_eq_true]
        exact List.filter_eq_self.1 (List.filter_sublist.eq_of_length he)
      match m, hm with
      | 0, hm => omega
      | m + 1, hm =>
        obtain ⟨s', h1, h2, h3, h4⟩ := l2_end m (s.filter (keep l s)) (by omega) (fun j hj => hs j (List.mem_filter.1 hj).1) (by omega)
          ⟨fun k => P k && keep l s k, by rw [hPe, List.filter_filter]; congr 1; funext k; rw [Bool.and_comm]⟩
          (fun Y hPY k hYk hk => List.mem_filter.2 ⟨hY Y hPY k hYk hk, by
            obtain ⟨h5, j, h6, h7, h8⟩ := hPY k hYk
            exact decide_eq_true ⟨h5, (hP_nonneg l _ s).2 ⟨j, hY Y hPY j h6 h7, h8⟩⟩⟩)
        refine ⟨s', ?_, h2, h3, h4⟩
        refine Evt.step (h := fun k => turnspitref11_Stuck.l3 k l (castL s) false (castL []) ((0 : Nat) : Int)) ?_ fun k => by rw [turnspitref11_Stuck.l2, if_pos rfl]; rfl
        refine l3_step hh s hs hsl _ s.length 0 false [] (by omega) (by simp) ?_
        rw [List.drop_zero, List.nil_append, show (false || !s.all (keep l s)) = true by simpa using c]
        exact h1
omit hh in
variable (l) in
/-- Who has it, by the map -/
def Has (f : IM) (n : Nat) : Prop := ∀ a v, f a = some v ↔ ∃ j, j < n ∧ a ∈ hd l j ∧ v = (j : Int)
omit hh in
theorem holdsP_has (k : Int) : ∀ (hs : List Int) (f f' : IM), holdsP k hs f = some f' → ∀ a v, f' a = some v ↔ f a = some v ∨ (a ∈ hs ∧ v = k)
  | [], f, f', h => by
    rw [holdsP] at h
    obtain rfl := Option.some.inj h
    simp
  | x :: t, f, f', h => by
    rw [holdsP] at h
    by_cases c : (f x).isSome = true
    · rw [if_pos c] at h; cases h
    rw [if_neg c] at h
    by_cases c2 : x < 0
    · rw [if_pos c2] at h; cases h
    rw [if_neg c2] at h
    intro a v
    rw [holdsP_has k t _ _ h a v]
    have hx : f x = none := by simpa using c
    unfold IM.put
    by_cases e : a = x
    · subst e
      rw [if_pos rfl, hx]
      simp only [Option.some.injEq, List.mem_cons, true_or, true_and, reduceCtorEq, false_or]
      constructor
      · rintro (h | h)
        · exact h.symm
        · exact h.2
      · exact fun h => Or.inl h.symm
    · rw [if_neg e, List.mem_cons]
      simp [e]
/-- The first pass, over one waiter's locks -/
theorem l1_step (i : Nat) (hi : i < l.length) (hl2 : l.length ≤ 64) (set : List Nat) (r : List Int × Int) (B : Nat) (hB : B ≤ 100000) : ∀ (d j : Nat) (met : List Int) (f : IM), d + j = (hd l i).length → met.length ≤ B + j → (∀ a, a ∈ met ↔ (f a).isSome = true) →
    (match holdsP (i : Int) ((hd l i).drop j) f with
      | none => r = ([], 1)
      | some f' => (if wt l i ∈ hd l i then r = ([], 1) else ∀ met', met'.length ≤ B + (hd l i).length → (∀ a, a ∈ met' ↔ (f' a).isSome = true) → Evt (fun k => turnspitref11_Stuck.l0 k l met' (castL set ++ [(i : Int)]) ((i + 1 : Nat) : Int)) r)) → set.length ≤ 64 →
    Evt (fun k => turnspitref11_Stuck.l1 k l met (castL set) (i : Int) (j : Int)) r
  | 0, j, met, f, hj, hm, hf, h, hset => by
    have hw : wrap64 ((i : Int) + 1) = ((i + 1 : Nat) : Int) := by unfold wrap64; omega
    have hhi := hh i hi
    rw [List.drop_eq_nil_of_le (by omega), holdsP] at h
    refine Evt.step (h := fun k => (turnspitref11_in.f k (hd l i) (wt l i)).bind fun t => if t = true then some ([], 1) else if (castL set).length < 17592186044416 then turnspitref11_Stuck.l0 k l met (castL set ++ [(i : Int)]) ((i + 1 : Nat) : Int) else none) ?_ fun k => by
      rw [turnspitref11_Stuck.l1, if_pos (by omega), if_pos (by omega), if_neg (by show ¬ (j : Int) < ((hd l i).length : Int); omega), hw]; rfl
    refine Evt.bind (in_f _ _ (by omega)) ?_
    by_cases c : wt l i ∈ hd l i
    · simp only [if_pos c] at h
      subst h
      simp only [decide_eq_true c, if_true]
      exact Evt.now _
    · simp only [if_neg c] at h
      simp only [decide_eq_false c, Bool.false_eq_true, if_false, if_pos (show (castL set).length < 17592186044416 by rw [castL_length]; omega)]
      exact h met (by omega) hf
  | d + 1, j, met, f, hj, hm, hf, h, hset => by
    have hw : wrap64 ((j : Int) + 1) = ((j + 1 : Nat) : Int) := by unfold wrap64; have := hh i hi; omega
    have hhi := hh i hi
    have hrd : rd (rd_T52 l (i : Int)).f0 (j : Int) = (hd l i)[j] := by
      show rd (hd l i) (j : Int) = _
      rw [rd, Int.toNat_natCast, List.getD_eq_getElem?_getD, List.getElem?_eq_getElem (by omega)]; rfl
    rw [List.drop_eq_getElem_cons (by omega), holdsP] at h
    by_cases c2 : (hd l i)[j] < 0
    · refine Evt.step (h := fun _ => some ([], 1)) ?_ fun k => by
        rw [turnspitref11_Stuck.l1, if_pos (by omega), if_pos (by omega), if_pos (by show (j : Int) < ((hd l i).length : Int); omega), if_pos (by omega), hrd, if_pos c2]
      have hr : r = ([], 1) := by
        by_cases c : (f (hd l i)[j]).isSome = true
        · rw [if_pos c] at h; exact h
        · rw [if_neg c, if_pos c2] at h; exact h
      rw [hr]
      exact Evt.now _
    · refine Evt.step (h := fun k => (turnspitref11_in.f k met (hd l i)[j]).bind fun t => if t = true then some ([], 1) else if met.length < 17592186044416 then turnspitref11_Stuck.l1 k l (met ++ [(hd l i)[j]]) (castL set) (i : Int) ((j + 1 : Nat) : Int) else none) ?_ fun k => by
        rw [turnspitref11_Stuck.l1, if_pos (by omega), if_pos (by omega), if_pos (by show (j : Int) < ((hd l i).length : Int); omega), if_pos (by omega), hrd, if_neg c2, hw]
      refine Evt.bind (in_f _ _ (by omega)) ?_
      by_cases c : (f (hd l i)[j]).isSome = true
      · rw [if_pos c] at h
        simp only [decide_eq_true ((hf _).2 c), if_true]
        rw [show r = ([], 1) from h]
        exact Evt.now _
      · rw [if_neg c, if_neg c2] at h
        simp only [decide_eq_false (fun hm => c ((hf _).1 hm)), Bool.false_eq_true, if_false, if_pos (show met.length < 17592186044416 by omega)]
        refine l1_step i hi hl2 set r B hB d (j + 1) _ _ (by omega) (by simp; omega) (fun a => ?_) h hset
        rw [List.mem_append, List.mem_singleton, hf a]
        unfold IM.put
        by_cases e : a = (hd l i)[j]
        · rw [if_pos e]; simp [e]
        · rw [if_neg e]; simp [e]
theorem l0_step (hl2 : l.length ≤ 64) (r : List Int × Int) : ∀ (d i : Nat) (met : List Int) (f : IM), d + i = l.length → met.length ≤ 1000 * i → (∀ a, a ∈ met ↔ (f a).isSome = true) → Has l f i →
    (match byP (i : Int) ((l.map pr52).drop i) f with
      | none => r = ([], 1)
      | some f' => Has l f' l.length → Evt (fun k => turnspitref11_Stuck.l2 k l (castL (List.range l.length)) true) r) → Evt (fun k => turnspitref11_Stuck.l0 k l met (castL (List.range i)) (i : Int)) r
  | 0, i, met, f, hi, hm, hf, hhas, h => by
    rw [List.drop_eq_nil_of_le (by rw [List.length_map]; omega), byP] at h
    obtain rfl : i = l.length := by omega
    exact Evt.step (h hhas) fun k => by rw [turnspitref11_Stuck.l0, if_neg (by omega)]
  | d + 1, i, met, f, hi, hm, hf, hhas, h => by
    have hd' : (l.map pr52).drop i = (hd l i, wt l i) :: (l.map pr52).drop (i + 1) := drop_L l i (by omega)
    rw [hd', byP] at h
    refine Evt.step (h := fun k => turnspitref11_Stuck.l1 k l met (castL (List.range i)) (i : Int) ((0 : Nat) : Int)) ?_ fun k => by rw [turnspitref11_Stuck.l0, if_pos (by omega)]; rfl
    refine l1_step hh i (by omega) hl2 (List.range i) r (1000 * i) (by omega) (hd l i).length 0 met f (by omega) (by omega) hf ?_ (by simp; omega)
    rw [List.drop_zero]
    cases hc : holdsP (i : Int) (hd l i) f with
    | none => rw [hc] at h; exact h
    | some f' =>
      rw [hc, Option.bind_some] at h
      simp only
      by_cases c : wt l i ∈ hd l i
      · rw [if_pos c] at h ⊢
        exact h
      · rw [if_neg c] at h ⊢
        intro met' hm' hf'
        have e : castL (List.range i) ++ [(i : Int)] = castL (List.range (i + 1)) := by rw [List.range_succ]; simp [castL]
        rw [e]
        refine l0_step hl2 r d (i + 1) met' f' (by omega) ?_ hf' (fun a v => ?_) h
        · have := hh i (by omega)
          omega
        · rw [holdsP_has _ _ _ _ hc a v, hhas a v]
          constructor
          · rintro (⟨j, h1, h2, h3⟩ | ⟨h1, rfl⟩)
            · exact ⟨j, by omega, h2, h3⟩
            · exact ⟨i, by omega, h1, rfl⟩
          · rintro ⟨j, h1, h2, h3⟩
            by_cases e : j = i
            · subst e; exact Or.inr ⟨h2, h3⟩
            · exact Or.inl ⟨j, by omega, h2, h3⟩
end
/-! ### the play's own passes -/
theorem waitsP_at (f : IM) : ∀ (L : List (List Int × Int)) (i : Int) (g : IM), (∀ k, k ≥ i → g k = none) → ∀ k v, waitsP f i L g k = some v ↔ g k = some v ∨ ∃ j : Nat, j < L.length ∧ k = i + j ∧ (L.getD j ([], 0)).2 ≥ 0 ∧ f (L.getD j ([], 0)).2 = some v
  | [], i, g, hg, k, v => by simp [waitsP]
  | w :: t, i, g, hg, k, v => by
    have hset : ∀ (g' : IM), (∀ k, k ≥ i + 1 → g' k = none) → (∀ k v, g' k = some v ↔ g k = some v ∨ (k = i ∧ w.2 ≥ 0 ∧ f w.2 = some v)) → (waitsP f (i + 1) t g' k = some v ↔ g k = some v ∨ ∃ j : Nat, j < (w :: t).length ∧ k = i + j ∧ ((w :: t).getD j ([], 0)).2 ≥ 0 ∧ f ((w :: t).getD j ([], 0)).2 = some v) := by
      intro g' h1 h2
      rw [waitsP_at f t (i + 1) g' h1 k v, h2 k v]
      constructor
      · rintro ((h | ⟨h3, h4⟩) | ⟨j, h3, h4, h5⟩)
        · exact Or.inl h
        · exact Or.inr ⟨0, by simp, by omega, h4⟩
        · exact Or.inr ⟨j + 1, by simp; omega, by omega, h5⟩
      · rintro (h | ⟨j, h3, h4, h5⟩)
        · exact Or.inl (Or.inl h)
        · cases j with
          | zero => exact Or.inl (Or.inr ⟨by omega, h5⟩)
          | succ j => exact Or.inr ⟨j, by simp at h3; omega, by omega, h5⟩
    rw [waitsP]
    cases hf : f w.2 with
    | none =>
      refine hset g (fun k hk => hg k (by omega)) fun k v => ?_
      simp [hf]
    | some who =>
      simp only
      by_cases c : w.2 ≥ 0
      · rw [if_pos c]
        refine hset (g.put i who) (fun k hk => by unfold IM.put; rw [if_neg (by omega)]; exact hg k (by omega)) fun k v => ?_
        unfold IM.put
        by_cases e : k = i
        · subst e
          rw [if_pos rfl, hg k (by omega), hf]
          simp [c]
        · rw [if_neg e]
          simp [e]
      · rw [if_neg c]
        refine hset g (fun k hk => hg k (by omega)) fun k v => ?_
        simp [c]
theorem filter_lt {α : Type} (p q : α → Bool) : ∀ L : List α, (∀ x, p x = true → q x = true) → (∃ x ∈ L, q x = true ∧ p x = false) → (L.filter p).length < (L.filter q).length
  | [], _, h => by obtain ⟨x, hx, _⟩ := h; cases hx
  | y :: t, hpq, h => by
    have hle : (t.filter p).length ≤ (t.filter q).length := by
      clear h
      induction t with
      | nil => simp
      | cons z t ih =>
        rw [List.filter_cons, List.filter_cons]
        by_cases c : p z = true
        · rw [if_pos c, if_pos (hpq z c)]; simp; exact ih
        · rw [if_neg c]; split
          · simp; omega
          · exact ih
    obtain ⟨x, hx, hq, hp⟩ := h
    rw [List.filter_cons, List.filter_cons]
    rcases List.mem_cons.1 hx with rfl | hx
    · rw [if_neg (by rw [hp]; simp), if_pos hq]
      simp; omega
    · have := filter_lt p q t hpq ⟨x, hx, hq, hp⟩
      by_cases c : p y = true
      · rw [if_pos c, if_pos (hpq y c)]; simp; exact this
      · rw [if_neg c]; split
        · simp; omega
        · exact this
def Stable (n : Nat) (g : IM) : Prop := ∀ k : Nat, k < n → stripP (k : Int) g = g
theorem strip_dom (k : Int) (g : IM) (x v : Int) (h : stripP k g x = some v) : g x = some v := by
  unfold stripP at h
  cases hg : g k with
  | none => rw [hg] at h; exact h
  | some who =>
    rw [hg] at h
    simp only at h
    split at h
    · exact h
    · unfold IM.del at h
      split at h
      · cases h
      · exact h
theorem folds_dom : ∀ (ks : List Nat) (g : IM) (x v : Int), ks.foldl (fun (g : IM) (k : Nat) => stripP (k : Int) g) g x = some v → g x = some v
  | [], g, x, v, h => h
  | k :: t, g, x, v, h => strip_dom _ _ _ _ (folds_dom t _ x v h)
theorem folds_or : ∀ (ks : List Nat) (g : IM), ((∀ k ∈ ks, stripP (k : Int) g = g) ∧ ks.foldl (fun (g : IM) (k : Nat) => stripP (k : Int) g) g = g) ∨ ∃ k ∈ ks, (g (k : Int)).isSome = true ∧ ks.foldl (fun (g : IM) (k : Nat) => stripP (k : Int) g) g (k : Int) = none
  | [], g => Or.inl ⟨fun k hk => by (cases hk), rfl⟩
  | k :: t, g => by
    by_cases c : stripP (k : Int) g = g
    · rw [List.foldl_cons, c]
      rcases folds_or t g with ⟨h1, h2⟩ | ⟨j, h1, h2⟩
      · exact Or.inl ⟨fun j hj => (List.mem_cons.1 hj).elim (fun e => by rw [e]; exact c) (h1 j), h2⟩
      · exact Or.inr ⟨j, List.mem_cons_of_mem _ h1, h2⟩
    · right
      have h1 : (g (k : Int)).isSome = true ∧ stripP (k : Int) g (k : Int) = none := by
        unfold stripP at c ⊢
        cases hg : g (k : Int) with
        | none => rw [hg] at c; exact absurd rfl c
        | some who =>
          rw [hg] at c
          simp only at c ⊢
          split at c
          · exact absurd rfl c
          · rename_i hh
            rw [if_neg hh]
            exact ⟨rfl, by unfold IM.del; rw [if_pos rfl]⟩
      refine ⟨k, List.mem_cons_self, h1.1, ?_⟩
      rw [List.foldl_cons]
      cases hh : t.foldl (fun (g : IM) (k : Nat) => stripP (k : Int) g) (stripP (k : Int) g) (k : Int) with
      | none => rfl
      | some v =>
        have := folds_dom t _ _ _ hh
        rw [h1.2] at this
        cases this
theorem passes_stay (n : Nat) : ∀ (m : Nat) (g : IM), Stable n g → passesP n m g = g
  | 0, g, _ => rfl
  | m + 1, g, h => by
    rw [passesP]
    have : passP n g = g := by
      unfold passP
      rcases folds_or (List.range n) g with ⟨_, h2⟩ | ⟨k, h1, h2, h3⟩
      · exact h2
      · exfalso
        have hk := List.mem_range.1 h1
        have : ∀ ks : List Nat, (∀ k ∈ ks, k < n) → ks.foldl (fun (g : IM) (k : Nat) => stripP (k : Int) g) g = g := by
          intro ks
          induction ks with
          | nil => intro _; rfl
          | cons a t ih => intro ha; rw [List.foldl_cons, h a (ha a List.mem_cons_self)]; exact ih fun k hk => ha k (List.mem_cons_of_mem _ hk)
        rw [this (List.range n) (fun k hk => List.mem_range.1 hk)] at h3
        rw [h3] at h2
        cases h2
    rw [this]
    exact passes_stay n m g h
def cntP (n : Nat) (g : IM) : Nat := ((List.range n).filter fun (k : Nat) => (g (k : Int)).isSome).length
theorem passes_stable (n : Nat) : ∀ (m : Nat) (g : IM), cntP n g ≤ m → Stable n (passesP n m g)
  | 0, g, h => by
    intro k hk
    have h0 : (List.range n).filter (fun (k : Nat) => (g (k : Int)).isSome) = [] := List.eq_nil_of_length_eq_zero (Nat.le_zero.1 h)
    rw [passesP]
    have : (g (k : Int)).isSome = false := by
      cases hg : (g (k : Int)).isSome with
      | false => rfl
      | true =>
        have : k ∈ (List.range n).filter (fun (k : Nat) => (g (k : Int)).isSome) := List.mem_filter.2 ⟨List.mem_range.2 hk, hg⟩
        rw [h0] at this
        cases this
    unfold stripP
    cases hg : g (k : Int) with
    | none => rfl
    | some v => rw [hg] at this; cases this
  | m + 1, g, h => by
    rcases folds_or (List.range n) g with ⟨h1, h2⟩ | ⟨k, h1, h2, h3⟩
    · have hst : Stable n g := fun k hk => h1 k (List.mem_range.2 hk)
      rw [passes_stay n (m + 1) g hst]
      exact hst
    · rw [passesP]
      refine passes_stable n m _ ?_
      have : cntP n (passP n g) < cntP n g := by
        refine filter_lt _ _ _ (fun x hx => ?_) ⟨k, h1, h2, by show (passP n g (k : Int)).isSome = false; unfold passP; rw [h3]; rfl⟩
        obtain ⟨v, hv⟩ := Option.isSome_iff_exists.1 hx
        rw [folds_dom _ _ _ _ hv]; rfl
      omega
theorem passes_dom (n : Nat) : ∀ (m : Nat) (g : IM) (x v : Int), passesP n m g x = some v → g x = some v
  | 0, g, x, v, h => h
  | m + 1, g, x, v, h => folds_dom _ _ _ _ (passes_dom n m _ x v h)
/-- What keeps itself is never stripped -/
theorem folds_keep (Y : Int → Prop) (g0 : IM) (hY : ∀ k, Y k → ∃ v, g0 k = some v ∧ Y v) : ∀ (ks : List Nat) (g : IM), (∀ k, Y k → g k = g0 k) → ∀ k, Y k → ks.foldl (fun (g : IM) (k : Nat) => stripP (k : Int) g) g k = g0 k
  | [], g, h, k, hk => h k hk
  | a :: t, g, h, k, hk => by
    rw [List.foldl_cons]
    refine folds_keep Y g0 hY t _ (fun x hx => ?_) k hk
    by_cases e : x = (a : Int)
    · subst e
      obtain ⟨v, h1, h2⟩ := hY _ hx
      obtain ⟨u, h3, _⟩ := hY _ h2
      have hga := (h _ hx).trans h1
      have hgv := (h _ h2).trans h3
      unfold stripP
      rw [hga]
      simp only
      rw [hgv, if_pos (by rfl), hga, h1]
    · rw [← h x hx]
      unfold stripP
      cases hg : g (a : Int) with
      | none => rfl
      | some who =>
        simp only
        split
        · rfl
        · unfold IM.del; rw [if_neg e]
theorem passes_keep (n : Nat) (Y : Int → Prop) (g0 : IM) (hY : ∀ k, Y k → ∃ v, g0 k = some v ∧ Y v) : ∀ (m : Nat) (g : IM), (∀ k, Y k → g k = g0 k) → ∀ k, Y k → passesP n m g k = g0 k
  | 0, g, h, k, hk => h k hk
  | m + 1, g, h, k, hk => passes_keep n Y g0 hY m _ (fun x hx => folds_keep Y g0 hY _ g h x hx) k hk
theorem wt_getD (l : List S52) (j : Nat) (h : j < l.length) : (l.map pr52).getD j ([], 0) = (hd l j, wt l j) := by
  unfold hd wt
  rw [rd_T52, Int.toNat_natCast, List.getD_eq_getElem?_getD, List.getD_eq_getElem?_getD, List.getElem?_map, List.getElem?_eq_getElem h]; rfl
/-- The play's answer is the set that keeps itself, the greatest one -/
theorem left_is (l : List S52) (f : IM) (hf : Has l f l.length) (s' : List Nat) (hs : ∃ P : Nat → Bool, s' = (List.range l.length).filter P) (hall : ∀ Y, Post l Y → ∀ k, Y k → k < l.length → k ∈ s') (hp : Post l (fun k => k ∈ s')) :
    leftP l.length (passesP l.length l.length (waitsP f 0 (l.map pr52) (fun _ => none))) = castL s' := by
  obtain ⟨P, rfl⟩ := hs
  have hg0 : ∀ k v, waitsP f 0 (l.map pr52) (fun _ => none) k = some v ↔ ∃ j : Nat, j < l.length ∧ k = (j : Int) ∧ wt l j ≥ 0 ∧ f (wt l j) = some v := by
    intro k v
    rw [waitsP_at f _ 0 _ (fun _ _ => rfl) k v]
    constructor
    · rintro (h | ⟨j, h1, h2, h3⟩)
      · cases h
      · rw [List.length_map] at h1
        rw [wt_getD l j h1] at h3
        exact ⟨j, h1, by omega, h3⟩
    · rintro ⟨j, h1, h2, h3⟩
      exact Or.inr ⟨j, by rw [List.length_map]; exact h1, by omega, by rw [wt_getD l j h1]; exact h3⟩
  generalize hgg : waitsP f 0 (l.map pr52) (fun _ => none) = g0 at hg0 ⊢
  have hst := passes_stable l.length l.length g0 (by unfold cntP; exact Nat.le_trans (List.length_filter_le _ _) (by rw [List.length_range]; exact Nat.le_refl _))
  have hdom := passes_dom l.length l.length g0
  have hkeep := passes_keep l.length (fun x => ∃ k : Nat, x = (k : Int) ∧ k ∈ (List.range l.length).filter P) g0 (by
    rintro _ ⟨k, rfl, hk⟩
    obtain ⟨h1, j, h2, h3, h4⟩ := hp k hk
    exact ⟨(j : Int), (hg0 _ _).2 ⟨k, List.mem_range.1 (List.mem_filter.1 hk).1, rfl, h1, (hf _ _).2 ⟨j, h3, h4, rfl⟩⟩, j, rfl, h2⟩) l.length g0 (fun _ _ => rfl)
  generalize passesP l.length l.length g0 = gF at hst hdom hkeep ⊢
  have hpost : Post l (fun k => k < l.length ∧ (gF (k : Int)).isSome = true) := by
    rintro k ⟨hk, hs⟩
    obtain ⟨v, hv⟩ := Option.isSome_iff_exists.1 hs
    obtain ⟨j, h1, h2, h3, h4⟩ := (hg0 _ _).1 (hdom _ _ hv)
    obtain rfl : k = j := by omega
    obtain ⟨i, h5, h6, rfl⟩ := (hf _ _).1 h4
    refine ⟨h3, i, ⟨h5, ?_⟩, h5, h6⟩
    have := hst k hk
    unfold stripP at this
    rw [hv] at this
    simp only at this
    by_cases c : (gF (i : Int)).isSome = true
    · exact c
    · rw [if_neg c] at this
      have h7 := congrFun this (k : Int)
      unfold IM.del at h7
      rw [if_pos rfl, hv] at h7
      cases h7
  unfold leftP castL
  congr 1
  refine List.filter_congr fun k hk => ?_
  have hkl := List.mem_range.1 hk
  cases h1 : (gF (k : Int)).isSome with
  | true =>
    have := (List.mem_filter.1 (hall _ hpost k ⟨hkl, h1⟩ hkl)).2
    exact this.symm
  | false =>
    cases h2 : P k with
    | false => rfl
    | true =>
      exfalso
      obtain ⟨h3, j, h4, h5, h6⟩ := hp k (List.mem_filter.2 ⟨hk, h2⟩)
      have h7 := hkeep (k : Int) ⟨k, rfl, List.mem_filter.2 ⟨hk, h2⟩⟩
      have h8 : g0 (k : Int) = some (j : Int) := (hg0 _ _).2 ⟨k, hkl, rfl, h3, (hf _ _).2 ⟨j, h5, h6, rfl⟩⟩
      rw [h7, h8] at h1
      cases h1
theorem ref_stuck (l : List S52) (hh : ∀ k, k < l.length → (hd l k).length ≤ 1000) : Evt (fun k => turnspitref11_Stuck.f k l) (stuckP (l.map pr52)) := by
  by_cases c : l.length > 64
  · have e : stuckP (l.map pr52) = ([], 2) := by unfold stuckP; rw [if_pos (by rw [List.length_map]; exact c)]
    rw [e]
    exact ⟨0, fun k _ => by show turnspitref11_Stuck.f k l = some ([], 2); unfold turnspitref11_Stuck.f; rw [if_pos (by omega)]⟩
  · have hl : l.length ≤ 64 := by omega
    obtain ⟨K, hK⟩ := l0_step hh hl (stuckP (l.map pr52)) l.length 0 [] (fun _ => none) (by omega) (by simp) (by simp) (fun a v => by simp) (by
      rw [List.drop_zero]
      unfold stuckP
      rw [if_neg (by rw [List.length_map]; omega)]
      cases hb : byP (0 : Int) (l.map pr52) (fun _ => none) with
      | none => rfl
      | some f' =>
        intro hhas
        obtain ⟨s', h1, h2, h3, h4⟩ := l2_end hh l.length (List.range l.length) (by simp) (fun j hj => List.mem_range.1 hj) (by simp; omega) ⟨fun _ => true, by rw [List.filter_eq_self.2 (fun _ _ => rfl)]⟩ (fun Y _ k _ hk => List.mem_range.2 hk)
        simp only [List.length_map]
        rw [left_is l f' hhas s' h2 h3 h4]
        exact h1)
    exact ⟨K, fun k hk => by show turnspitref11_Stuck.f k l = _; unfold turnspitref11_Stuck.f; rw [if_neg (by omega)]; exact hK k hk⟩
/-- Few: told, and what it says -/
theorem few_l0 (l : List S52) (hlen : l.length ≤ 140737488351232) (hg : ∀ k, k < l.length → (hd l k).length ≤ 140737488351232) : ∀ (d i : Nat) (x : Nat), d + i = l.length → x ≤ 400000000000000 → ∃ b, Evt (fun k => turnspitlaw11_few.l0 k l (x : Int) (i : Int)) b ∧ (b = true → x + holdsTotal (l.drop i) + (l.length - i) ≤ 200)
  | 0, i, x, hi, hx => by
    refine ⟨decide ((x : Int) ≤ 200), Evt.step (Evt.now _) fun k => by rw [turnspitlaw11_few.l0, if_neg (by omega)], fun h => ?_⟩
    have := of_decide_eq_true h
    rw [List.drop_eq_nil_of_le (by omega)]
    simp [holdsTotal]
    omega
  | d + 1, i, x, hi, hx => by
    by_cases c : x ≤ 200
    · have hgi := hg i (by omega)
      have e1 : wrap64 (wrap64 ((x : Int) + 1) + (((rd_T52 l (i : Int)).f0).length : Int)) = ((x + 1 + (hd l i).length : Nat) : Int) := by
        show wrap64 (wrap64 ((x : Int) + 1) + ((hd l i).length : Int)) = _
        unfold wrap64
        omega
      have e2 : wrap64 ((i : Int) + 1) = ((i + 1 : Nat) : Int) := by unfold wrap64; omega
      obtain ⟨b, h1, h2⟩ := few_l0 l hlen hg d (i + 1) (x + 1 + (hd l i).length) (by omega) (by omega)
      refine ⟨b, Evt.step h1 fun k => by rw [turnspitlaw11_few.l0, if_pos (by omega), if_pos (by omega), if_pos (by omega), e1, e2], fun h => ?_⟩
      have := h2 h
      rw [drop_T l i (by omega)]
      have e3 : (rd_T52 l (i : Int)).f0.length = (hd l i).length := rfl
      omega
    · refine ⟨false, Evt.step (Evt.now _) fun k => by rw [turnspitlaw11_few.l0, if_pos (by omega), if_neg (by omega), decide_eq_false (by omega)], fun h => by cases h⟩
theorem le_sum_ {x : Nat} : ∀ {L : List Nat}, x ∈ L → x ≤ L.sum
  | a :: t, h => by
    rw [List.sum_cons]
    rcases List.mem_cons.1 h with rfl | h
    · omega
    · have := le_sum_ h
      omega
theorem stuck_pure (l : List S52) (hlen0 : l.length * Try.prog.bytesOf 52 ≤ reachBytes) (hg : ∀ x ∈ l, (x.f0.length * Try.prog.bytesOf 3 ≤ reachBytes ∧ ∀ y ∈ x.f0, (Lit.int .i64 y).wf = true) ∧ (Lit.int .i64 x.f1).wf = true) : ∃ k, turnspitlaw11_LocksStuck.f k l = some true := by
  have b52 : Try.prog.bytesOf 52 = 32 := by kernel_rfl
  have b3 : Try.prog.bytesOf 3 = 8 := by kernel_rfl
  have hlen : l.length ≤ 140737488351232 := by rw [b52] at hlen0; unfold reachBytes at hlen0; omega
  have hgk : ∀ k, k < l.length → (hd l k).length ≤ 140737488351232 := fun k hk => by
    have hq : ∀ x : S52, x ∈ l → x.f0.length ≤ 140737488351232 := fun x hx => by have := (hg x hx).1.1; rw [b3] at this; unfold reachBytes at this; omega
    unfold hd
    rw [rd_T52, Int.toNat_natCast, List.getD_eq_getElem?_getD, List.getElem?_eq_getElem hk]
    exact hq _ (List.getElem_mem hk)
  obtain ⟨b, ⟨K, hK⟩, hb⟩ := few_l0 l hlen hgk l.length 0 0 (by omega) (by omega)
  have hev : Evt (fun k => turnspitlaw11_LocksStuck.f k l) true := by
    unfold turnspitlaw11_LocksStuck.f
    refine Evt.bind (a := b) ⟨K, fun k hk => hK k hk⟩ ?_
    cases b with
    | false => exact ⟨0, fun k _ => rfl⟩
    | true =>
      have hT := hb rfl
      rw [List.drop_zero] at hT
      simp only [if_true]
      have hin : inAll l = true ∧ holdsTotal l ≤ 1000000 := by
        refine ⟨List.all_eq_true.2 fun x hx => ?_, by omega⟩
        obtain ⟨⟨_, h2⟩, h3⟩ := hg x hx
        have conv : ∀ y : Int, (Lit.int .i64 y).wf = true → -9223372036854775808 ≤ y ∧ y ≤ 9223372036854775807 := fun y hy => IM.of_wf hy
        rw [Bool.and_eq_true]
        exact ⟨decide_eq_true (conv _ h3), List.all_eq_true.2 fun y hy => decide_eq_true (conv _ (h2 y hy))⟩
      have hf : locks_Stuck.f l = some ((stuckP (l.map pr52)).1, (stuckP (l.map pr52)).2) := by unfold locks_Stuck.f; rw [if_pos hin]
      rw [hf]
      simp only [Option.bind_some]
      have hh : ∀ k, k < l.length → (hd l k).length ≤ 1000 := fun k hk => by
        have hle : (hd l k).length ≤ holdsTotal l := by
          unfold holdsTotal
          have hm : (hd l k).length ∈ l.map (fun x => x.f0.length) := by
            refine List.mem_map.2 ⟨l[k], List.getElem_mem hk, ?_⟩
            unfold hd
            rw [rd_T52, Int.toNat_natCast, List.getD_eq_getElem?_getD, List.getElem?_eq_getElem hk]; rfl
          exact le_sum_ hm
        omega
      refine Evt.bind (ref_stuck l hh) ?_
      rw [show turnspitlaw11_awake.f = some true from rfl]
      simp only [Option.bind_some, if_true]
      refine Evt.bind (ints_f _ ?_) ?_
      · have : (stuckP (l.map pr52)).1.length ≤ l.length := by
          unfold stuckP
          split
          · simp
          · split
            · simp
            · unfold leftP
              rw [List.length_map]
              refine Nat.le_trans (List.length_filter_le _ _) ?_
              simp
        omega
      · simp only [if_true, beq_self_eq_true]
        exact Evt.now _
  obtain ⟨K2, hK2⟩ := hev
  exact ⟨K2, hK2 K2 (Nat.le_refl _)⟩
end Go.Proofs.Ytiidjnnagbfokaa.QLocksStuck
