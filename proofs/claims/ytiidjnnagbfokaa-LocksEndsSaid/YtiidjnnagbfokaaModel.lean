/- Layer 11's play, as functions of Lean; plain facts about them. No condition. Written by hand. -/
import Derived.Test.YtiidjnnagbfokaaWMore
namespace Go.Proofs.Ytiidjnnagbfokaa.Lk
open Go Go.RowKit Go.Proofs.YtiidjnnagbfokaaW.PrintWords Go.Proofs.YtiidjnnagbfokaaW.PrintLast Go.Proofs.YtiidjnnagbfokaaW.PrintMore
set_option linter.unusedVariables false
set_option linter.unusedSimpArgs false
abbrev Pr := Int × Int
structure PS where
  by_ : List Int
  all : List (Nat × Nat)
  done : List Int
def secOf (x y : Int) (ord : Bool) : List Int := if (if ord then mn x y else x) = (if ord then mx x y else y) then [if ord then mn x y else x] else [if ord then mn x y else x, if ord then mx x y else y]
def secAt (ord : Bool) (job : List Pr) (a : Nat) : List Int := if a < job.length then secOf (job.getD a (0, 0)).1 (job.getD a (0, 0)).2 ord else []
def takeP (b : List Int) (x who : Int) : List Int × Int :=
  if x < 0 ∨ x ≥ b.length ∨ who < 0 then ([], 1) else if b.getD x.toNat 0 = who then ([], 4) else if b.getD x.toNat 0 ≥ 0 then ([], 11) else (b.set x.toNat who, 0)
def giveP (b : List Int) (x who : Int) : List Int × Int :=
  if x < 0 ∨ x ≥ b.length ∨ who < 0 then ([], 1) else if b.getD x.toNat 0 = who then (b.set x.toNat (-1), 0) else ([], 4)
def stepP (ord : Bool) (jobs : List (List Pr)) (s : PS) (p : Int) : PS :=
  if p < 0 ∨ p ≥ jobs.length then s else
  let k := p.toNat
  let ah := s.all.getD k (0, 0)
  let sc := secAt ord (jobs.getD k []) ah.1
  if sc.length = 0 then s
  else if ah.2 < sc.length then
    if (takeP s.by_ (sc.getD ah.2 0) p).2 = 0 then ⟨(takeP s.by_ (sc.getD ah.2 0) p).1, s.all.set k (ah.1, ah.2 + 1), s.done⟩ else s
  else ⟨sc.foldl (fun b x => (giveP b x p).1) s.by_, s.all.set k (ah.1 + 1, 0), s.done ++ [p]⟩
def out1 (ord : Bool) (job : List Pr) (ah : Nat × Nat) : List Int × Int :=
  ((secAt ord job ah.1).take ah.2, if ah.2 < (secAt ord job ah.1).length then (secAt ord job ah.1).getD ah.2 0 else -1)
def outP (ord : Bool) (jobs : List (List Pr)) (all : List (Nat × Nat)) : List (List Int × Int) :=
  (List.range jobs.length).map fun k => out1 ord (jobs.getD k []) (all.getD k (0, 0))
def rightP (n : Int) (jobs : List (List Pr)) : Bool := jobs.flatten.all fun p => decide (0 ≤ mn p.1 p.2 ∧ mx p.1 p.2 < n)
def startP (n : Int) (m : Nat) : PS := ⟨List.replicate n.toNat (-1), List.replicate m (0, 0), []⟩
def playsP (n : Int) (jobs : List (List Pr)) (ord : Bool) (picks : List Int) : PS := picks.foldl (stepP ord jobs) (startP n jobs.length)
def playP (n : Int) (jobs : List (List Pr)) (ord : Bool) (picks : List Int) : List Int × List (List Int × Int) × List Int × Int :=
  if n < 0 ∨ n > 65 then ([], [], [], 1) else if jobs.length > 64 ∨ picks.length > 20000 then ([], [], [], 2) else if rightP n jobs = false then ([], [], [], 1) else
  ((playsP n jobs ord picks).by_, outP ord jobs (playsP n jobs ord picks).all, (playsP n jobs ord picks).done, 0)

theorem secOf_length (x y : Int) (ord : Bool) : (secOf x y ord).length = 1 ∨ (secOf x y ord).length = 2 := by
  unfold secOf
  generalize (if ord then mn x y else x) = a
  generalize (if ord then mx x y else y) = b
  by_cases h : a = b
  · rw [if_pos h]; exact .inl rfl
  · rw [if_neg h]; exact .inr rfl
theorem secAt_length (ord : Bool) (job : List Pr) (a : Nat) : (secAt ord job a).length ≤ 2 := by
  unfold secAt
  split
  · rcases secOf_length (job.getD a (0, 0)).1 (job.getD a (0, 0)).2 ord with h | h <;> omega
  · exact Nat.zero_le _
theorem secAt_pos {ord : Bool} {job : List Pr} {a : Nat} (h : a < job.length) : 0 < (secAt ord job a).length := by
  unfold secAt
  rw [if_pos h]
  rcases secOf_length (job.getD a (0, 0)).1 (job.getD a (0, 0)).2 ord with h | h <;> omega
theorem secAt_none {ord : Bool} {job : List Pr} {a : Nat} (h : ¬ a < job.length) : secAt ord job a = [] := by
  unfold secAt
  rw [if_neg h]
theorem takeP_length (b : List Int) (x who : Int) : (takeP b x who).1.length ≤ b.length := by
  unfold takeP
  repeat' split
  all_goals simp
theorem giveP_length (b : List Int) (x who : Int) : (giveP b x who).1.length ≤ b.length := by
  unfold giveP
  repeat' split
  all_goals simp
theorem gives_length (p : Int) : ∀ (l b : List Int), (l.foldl (fun b x => (giveP b x p).1) b).length ≤ b.length
  | [], b => Nat.le_refl _
  | x :: t, b => Nat.le_trans (gives_length p t _) (giveP_length b x p)
/-- What holds of a state throughout -/
structure Ok (ord : Bool) (jobs : List (List Pr)) (m : Nat) (s : PS) : Prop where
  by_ : s.by_.length ≤ 65
  all : s.all.length = jobs.length
  at_ : ∀ k, k < jobs.length → (s.all.getD k (0, 0)).1 ≤ (jobs.getD k []).length
  has : ∀ k, k < jobs.length → (s.all.getD k (0, 0)).2 ≤ (secAt ord (jobs.getD k []) (s.all.getD k (0, 0)).1).length
  done : s.done.length ≤ m
theorem getD_set_ {α : Type} (l : List α) (k j : Nat) (x d : α) : (l.set k x).getD j d = if k = j ∧ k < l.length then x else l.getD j d := by
  simp only [List.getD_eq_getElem?_getD, List.getElem?_set]
  by_cases h : k = j
  · subst h
    by_cases h2 : k < l.length
    · simp [h2]
    · simp [h2, List.getElem?_eq_none (Nat.le_of_not_lt h2)]
  · simp [h]
theorem Ok.start (ord : Bool) (n : Int) (hn : n ≤ 65) (jobs : List (List Pr)) : Ok ord jobs 0 (startP n jobs.length) := by
  have h0 : ∀ k, (startP n jobs.length).all.getD k (0, 0) = (0, 0) := by
    intro k
    simp only [startP, List.getD_eq_getElem?_getD, List.getElem?_replicate]
    split <;> rfl
  refine ⟨by simp [startP]; omega, by simp [startP], fun k _ => ?_, fun k _ => ?_, by simp [startP]⟩
  · rw [h0]; exact Nat.zero_le _
  · rw [h0]; exact Nat.zero_le _
theorem Ok.step {ord : Bool} {jobs : List (List Pr)} {m : Nat} {s : PS} (h : Ok ord jobs m s) (p : Int) : Ok ord jobs (m + 1) (stepP ord jobs s p) := by
  have same : Ok ord jobs (m + 1) s := ⟨h.by_, h.all, h.at_, h.has, by have := h.done; omega⟩
  unfold stepP
  by_cases c : p < 0 ∨ p ≥ jobs.length
  · rw [if_pos c]; exact same
  rw [if_neg c]
  dsimp only
  have hk : p.toNat < jobs.length := by omega
  have ha := h.all
  by_cases c1 : (secAt ord (jobs.getD p.toNat []) (s.all.getD p.toNat (0, 0)).1).length = 0
  · rw [if_pos c1]; exact same
  rw [if_neg c1]
  have hat : (s.all.getD p.toNat (0, 0)).1 < (jobs.getD p.toNat []).length := by
    apply Classical.byContradiction
    intro hn
    exact c1 (by rw [secAt_none hn]; rfl)
  by_cases c2 : (s.all.getD p.toNat (0, 0)).2 < (secAt ord (jobs.getD p.toNat []) (s.all.getD p.toNat (0, 0)).1).length
  · rw [if_pos c2]
    by_cases c3 : (takeP s.by_ ((secAt ord (jobs.getD p.toNat []) (s.all.getD p.toNat (0, 0)).1).getD (s.all.getD p.toNat (0, 0)).2 0) p).2 = 0
    · rw [if_pos c3]
      refine ⟨Nat.le_trans (takeP_length _ _ _) h.by_, by simpa using ha, fun k hk2 => ?_, fun k hk2 => ?_, by have := h.done; simp only; omega⟩
      · simp only [getD_set_]
        split
        · rename_i e; obtain ⟨rfl, _⟩ := e; exact Nat.le_of_lt hat
        · exact h.at_ k hk2
      · simp only [getD_set_]
        split
        · rename_i e; obtain ⟨rfl, _⟩ := e; exact c2
        · exact h.has k hk2
    · rw [if_neg c3]; exact same
  · rw [if_neg c2]
    refine ⟨Nat.le_trans (gives_length _ _ _) h.by_, by simpa using ha, fun k hk2 => ?_, fun k hk2 => ?_, by have := h.done; simp only [List.length_append, List.length_singleton]; omega⟩
    · simp only [getD_set_]
      split
      · rename_i e; obtain ⟨rfl, _⟩ := e; exact hat
      · exact h.at_ k hk2
    · simp only [getD_set_]
      split
      · exact Nat.zero_le _
      · exact h.has k hk2
theorem take_snoc_ {α : Type} (l : List α) (i : Nat) (d : α) (h : i < l.length) : l.take (i + 1) = l.take i ++ [l.getD i d] := by
  rw [List.getD_eq_getElem?_getD, List.getElem?_eq_getElem h]
  simp [List.take_append_getElem, h]
theorem Ok.plays (ord : Bool) (n : Int) (hn : n ≤ 65) (jobs : List (List Pr)) (picks : List Int) : ∀ i, i ≤ picks.length → Ok ord jobs i ((picks.take i).foldl (stepP ord jobs) (startP n jobs.length))
  | 0, _ => Ok.start ord n hn jobs
  | i + 1, h => by
    rw [take_snoc_ picks i 0 h, List.foldl_append]
    exact (Ok.plays ord n hn jobs picks i (by omega)).step _
/-! ### who is stuck -/
abbrev IM := Int → Option Int
def IM.put (f : IM) (k v : Int) : IM := fun y => if y = k then some v else f y
def IM.del (f : IM) (k : Int) : IM := fun y => if y = k then none else f y
/-- One waiter's locks, laid into the map of who holds what; none: there is one already, or one below 0 -/
def holdsP (k : Int) : List Int → IM → Option IM
  | [], f => some f
  | x :: t, f => if (f x).isSome = true then none else if x < 0 then none else holdsP k t (f.put x k)
def byP : Int → List (List Int × Int) → IM → Option IM
  | _, [], f => some f
  | k, w :: t, f => (holdsP k w.1 f).bind fun f' => if w.2 ∈ w.1 then none else byP (k + 1) t f'
def waitsP (f : IM) : Int → List (List Int × Int) → IM → IM
  | _, [], g => g
  | k, w :: t, g => waitsP f (k + 1) t (match f w.2 with | some who => if w.2 ≥ 0 then g.put k who else g | none => g)
def stripP (k : Int) (g : IM) : IM := match g k with | some who => if (g who).isSome = true then g else g.del k | none => g
def passP (n : Nat) (g : IM) : IM := (List.range n).foldl (fun (g : IM) (k : Nat) => stripP (k : Int) g) g
def passesP (n : Nat) : Nat → IM → IM
  | 0, g => g
  | m + 1, g => passesP n m (passP n g)
def leftP (n : Nat) (g : IM) : List Int := ((List.range n).filter fun (k : Nat) => (g (k : Int)).isSome).map fun (k : Nat) => (k : Int)
def stuckP (l : List (List Int × Int)) : List Int × Int :=
  if l.length > 64 then ([], 2) else
  match byP 0 l (fun _ => none) with
  | none => ([], 1)
  | some f => (leftP l.length (passesP l.length l.length (waitsP f 0 l (fun _ => none))), 0)
end Go.Proofs.Ytiidjnnagbfokaa.Lk
