/- What anybody takes and gives back, of any locks, is what the document says; no condition. -/
import Derived.Test.YtiidjnnagbfokaaQLocksTellsx1
import Derived.Test.YtiidjnnagbfokaaQLocksTellsx2
import Derived.Test.YtiidjnnagbfokaaQLocksTellsx3
import Derived.Test.YtiidjnnagbfokaaQLocksTellsx4
import Derived.Test.YtiidjnnagbfokaaQLocksTellsx5
namespace Go.Proofs.Ytiidjnnagbfokaa.QLocksTells
open Go Go.RowKit Go.Proofs.Ytiidjnnagbfokaa.Lk Go.Proofs.YtiidjnnagbfokaaW.PrintWords Go.Proofs.YtiidjnnagbfokaaW.PrintLast Go.Proofs.YtiidjnnagbfokaaW.PrintMore
set_option linter.unusedVariables false
theorem ints_l0 (l : List Int) (h : l.length ≤ 1000000) : ∀ (d i : Nat), d + i = l.length → turnspitref04_Ints.l0 (d + 1) l l (i : Int) = some true
  | 0, i, hi => by rw [turnspitref04_Ints.l0, if_neg (by omega)]
  | d + 1, i, hi => by
    have hw : wrap64 ((i : Int) + 1) = ((i + 1 : Nat) : Int) := by unfold wrap64; omega
    rw [turnspitref04_Ints.l0, if_pos (by omega), if_pos (by omega), if_pos (by omega), if_pos rfl, hw]
    exact ints_l0 l h d (i + 1) (by omega)
theorem ints_f (l : List Int) (k : Nat) (hk : l.length < k) (h : l.length ≤ 1000000) : turnspitref04_Ints.f k l l = some true := by
  obtain ⟨m, rfl⟩ : ∃ m, k = l.length + 1 + m := ⟨k - (l.length + 1), by omega⟩
  refine up_ (fun k => turnspitref04_Ints.mono l l k) m _ _ ?_
  unfold turnspitref04_Ints.f
  rw [if_pos rfl]
  exact ints_l0 l h l.length 0 (by omega)
theorem take_ref (b : List Int) (x who : Int) (h : b.length ≤ 1000) (k : Nat) : turnspitref11_Take.f (k + 1) b x who = some (takeP b x who) := by
  have hneg : ∀ b', b' = true → (x < 0 ∨ x ≥ (b.length : Int) ∨ who < 0) → turnspitref11_Take.j0 (k + 1) x who b' b = some (takeP b x who) := by
    rintro _ rfl hc
    rw [turnspitref11_Take.j0, if_pos rfl]
    unfold takeP
    rw [if_pos hc]
  unfold turnspitref11_Take.f
  by_cases c0 : x < 0
  · rw [if_pos c0]; exact hneg _ rfl (Or.inl c0)
  rw [if_neg c0]
  by_cases c1 : x ≥ (b.length : Int)
  · rw [if_pos c1]; exact hneg _ rfl (Or.inr (Or.inl c1))
  rw [if_neg c1]
  by_cases c2 : who < 0
  · exact hneg _ (decide_eq_true c2) (Or.inr (Or.inr c2))
  have c5 : ¬ (x < 0 ∨ x ≥ (b.length : Int) ∨ who < 0) := by omega
  unfold takeP
  rw [turnspitref11_Take.j0, decide_eq_false c2, if_neg (by simp), if_pos (show 0 ≤ x by omega), if_pos (show x < (b.length : Int) by omega), if_neg c5]
  unfold rd
  by_cases c3 : b.getD x.toNat 0 = who
  · rw [if_pos c3, if_pos c3]
  rw [if_neg c3, if_neg c3]
  by_cases c4 : b.getD x.toNat 0 ≥ 0
  · rw [if_pos c4, if_pos c4]
  rw [if_neg c4, if_neg c4]
  unfold turnspitref11_put.f
  rw [if_pos (by simp; omega), Option.bind_some, List.nil_append, if_pos (show 0 ≤ x by omega), if_pos (show x < (b.length : Int) by omega)]; rfl
theorem give_ref (b : List Int) (x who : Int) (h : b.length ≤ 1000) (k : Nat) : turnspitref11_Give.f (k + 1) b x who = some (giveP b x who) := by
  have hneg : ∀ b', b' = true → (x < 0 ∨ x ≥ (b.length : Int) ∨ who < 0) → turnspitref11_Give.j0 (k + 1) x who b' b = some (giveP b x who) := by
    rintro _ rfl hc
    rw [turnspitref11_Give.j0, if_pos rfl]
    unfold giveP
    rw [if_pos hc]
  unfold turnspitref11_Give.f
  by_cases c0 : x < 0
  · rw [if_pos c0]; exact hneg _ rfl (Or.inl c0)
  rw [if_neg c0]
  by_cases c1 : x ≥ (b.length : Int)
  · rw [if_pos c1]; exact hneg _ rfl (Or.inr (Or.inl c1))
  rw [if_neg c1]
  by_cases c2 : who < 0
  · exact hneg _ (decide_eq_true c2) (Or.inr (Or.inr c2))
  have c5 : ¬ (x < 0 ∨ x ≥ (b.length : Int) ∨ who < 0) := by omega
  unfold giveP
  rw [turnspitref11_Give.j0, decide_eq_false c2, if_neg (by simp), if_pos (show 0 ≤ x by omega), if_pos (show x < (b.length : Int) by omega), if_neg c5]
  unfold rd
  by_cases c3 : b.getD x.toNat 0 = who
  · rw [if_pos c3, if_pos c3]
    unfold turnspitref11_put.f
    rw [if_pos (by simp; omega), Option.bind_some, List.nil_append, if_pos (show 0 ≤ x by omega), if_pos (show x < (b.length : Int) by omega)]; rfl
  · rw [if_neg c3, if_neg c3]
theorem new_l0 (n : Int) (hn : 0 ≤ n) (h : n ≤ 65) : ∀ (d i : Nat), d + i = n.toNat → turnspitref11_New.l0 (d + 1) n (i : Int) (List.replicate i (-1)) = some (List.replicate n.toNat (-1), 0)
  | 0, i, hi => by
    rw [turnspitref11_New.l0, if_neg (by omega)]
    rw [show i = n.toNat by omega]
  | d + 1, i, hi => by
    have hw : wrap64 ((i : Int) + 1) = ((i + 1 : Nat) : Int) := by unfold wrap64; omega
    rw [turnspitref11_New.l0, if_pos (by omega), if_pos (by simp; omega), hw, ← List.replicate_succ']
    exact new_l0 n hn h d (i + 1) (by omega)
theorem new_ref (n : Int) (k : Nat) (hk : 70 ≤ k) : turnspitref11_New.f k n = some (if n < 0 ∨ n > 65 then [] else List.replicate n.toNat (-1), if n < 0 ∨ n > 65 then 1 else 0) := by
  obtain ⟨k, rfl⟩ : ∃ m, k = m + 1 := ⟨k - 1, by omega⟩
  unfold turnspitref11_New.f
  by_cases c0 : n < 0
  · rw [if_pos c0, if_pos (Or.inl c0), if_pos (Or.inl c0), turnspitref11_New.j0, if_pos rfl]
  rw [if_neg c0]
  by_cases c1 : n > 65
  · rw [decide_eq_true c1, if_pos (Or.inr c1), if_pos (Or.inr c1), turnspitref11_New.j0, if_pos rfl]
  rw [decide_eq_false c1, if_neg (by omega), if_neg (by omega), turnspitref11_New.j0, if_neg (by simp)]
  obtain ⟨m, rfl⟩ : ∃ m, k = n.toNat + 1 + m := ⟨k - (n.toNat + 1), by omega⟩
  refine up_ (f := fun k => turnspitref11_New.l0 k n 0 []) (fun k => (turnspitref11_New.mono_l k).2 n 0 []) m _ _ ?_
  exact new_l0 n (by omega) (by omega) n.toNat 0 (by omega)
theorem take_f' (b : List Int) (x who : Int) (h : b.length ≤ 100) : locks_Take.f b x who = some (takeP b x who) := by
  unfold locks_Take.f locks_odd.f takeP
  by_cases c0 : x < 0
  · rw [if_pos c0, if_pos (Or.inl c0)]; rfl
  rw [if_neg c0]
  by_cases c1 : x ≥ (b.length : Int)
  · rw [if_pos c1, if_pos (Or.inr (Or.inl c1))]; rfl
  rw [if_neg c1]
  by_cases c2 : who < 0
  · rw [if_pos (Or.inr (Or.inr c2)), decide_eq_true c2]; rfl
  have c5 : ¬ (x < 0 ∨ x ≥ (b.length : Int) ∨ who < 0) := by omega
  rw [if_neg c5, decide_eq_false c2, Option.bind_some, if_neg (by simp), if_pos (show 0 ≤ x by omega), if_pos (show x < (b.length : Int) by omega)]
  unfold rd
  by_cases c3 : b.getD x.toNat 0 = who
  · rw [if_pos c3, if_pos c3]
  rw [if_neg c3, if_neg c3]
  by_cases c4 : b.getD x.toNat 0 ≥ 0
  · rw [if_pos c4, if_pos c4]
  rw [if_neg c4, if_neg c4]
  unfold locks_with.f slices_Clone_int_int.f
  rw [if_pos (by omega), Option.bind_some, if_pos (show 0 ≤ x by omega), if_pos (show x < (b.length : Int) by omega)]; rfl
theorem give_f' (b : List Int) (x who : Int) (h : b.length ≤ 100) : locks_Give.f b x who = some (giveP b x who) := by
  unfold locks_Give.f locks_odd.f giveP
  by_cases c0 : x < 0
  · rw [if_pos c0, if_pos (Or.inl c0)]; rfl
  rw [if_neg c0]
  by_cases c1 : x ≥ (b.length : Int)
  · rw [if_pos c1, if_pos (Or.inr (Or.inl c1))]; rfl
  rw [if_neg c1]
  by_cases c2 : who < 0
  · rw [if_pos (Or.inr (Or.inr c2)), decide_eq_true c2]; rfl
  have c5 : ¬ (x < 0 ∨ x ≥ (b.length : Int) ∨ who < 0) := by omega
  rw [if_neg c5, decide_eq_false c2, Option.bind_some, if_neg (by simp), if_pos (show 0 ≤ x by omega), if_pos (show x < (b.length : Int) by omega)]
  unfold rd
  by_cases c3 : b.getD x.toNat 0 = who
  · rw [if_pos c3, if_pos c3]
    unfold locks_with.f slices_Clone_int_int.f
    rw [if_pos (by omega), Option.bind_some, if_pos (show 0 ≤ x by omega), if_pos (show x < (b.length : Int) by omega)]; rfl
  · rw [if_neg c3, if_neg c3]
theorem pair_eq (a b : Int) : turnspitref11_Pair.f a b = some (mn a b, mx a b) := by
  unfold turnspitref11_Pair.f mn mx
  by_cases c : a < b
  · rw [if_pos c]; congr 1; refine Prod.ext ?_ ?_ <;> simp only [] <;> split <;> omega
  · rw [if_neg c]; congr 1; refine Prod.ext ?_ ?_ <;> simp only [] <;> split <;> omega
theorem tells (l : List Int) (a b : Int) : turnspitlaw11_LocksTells.f 1000 l a b = some true := by
  have aw : turnspitlaw11_awake.f = some true := rfl
  unfold turnspitlaw11_LocksTells.f
  by_cases c : (l.length : Int) > 100
  · rw [if_pos c, aw]; rfl
  rw [if_neg c, take_f' l a b (by omega), take_ref l a b (by omega) 999, give_f' l a b (by omega), give_ref l a b (by omega) 999, new_f a, new_ref a 1000 (by omega), pair_eq, aw]
  have h1 : turnspitref04_Ints.f 1000 (takeP l a b).1 (takeP l a b).1 = some true := ints_f _ _ (by have := takeP_length l a b; omega) (by have := takeP_length l a b; omega)
  have h2 : turnspitref04_Ints.f 1000 (giveP l a b).1 (giveP l a b).1 = some true := ints_f _ _ (by have := giveP_length l a b; omega) (by have := giveP_length l a b; omega)
  have hl : (if a < 0 ∨ a > 65 then [] else List.replicate a.toNat (-1 : Int)).length ≤ 100 := by
    split
    · simp
    · rw [List.length_replicate]; omega
  have h3 := ints_f (if a < 0 ∨ a > 65 then [] else List.replicate a.toNat (-1)) 1000 (by omega) (by omega)
  simp only [Option.bind_some, locks_Pair.f, h1, h2, h3, if_true, beq_self_eq_true]
end Go.Proofs.Ytiidjnnagbfokaa.QLocksTells
