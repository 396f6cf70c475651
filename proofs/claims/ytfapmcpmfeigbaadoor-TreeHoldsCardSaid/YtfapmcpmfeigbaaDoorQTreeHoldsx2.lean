/- Go functions of the program, each as a function of Lean with the proof that the Go text comes to its answers; no condition. Written by a program of this session. -/
import Derived.Test.YtfapmcpmfeigbaaDoorQTreeHoldsx0
namespace Go.Proofs.YtfapmcpmfeigbaaDoor.QTreeHolds
open Go.RowKit Go.Proofs.YtfapmcpmfeigbaaDoorW.PrintWords Go.Proofs.YtfapmcpmfeigbaaDoorW.PrintLast Go.Proofs.YtfapmcpmfeigbaaDoorW.PrintMore
attribute [local go_sem] max2_int min2_int max_two min_two max_three min_three max_four min_four   -- for this text's walks alone
set_option linter.unusedVariables false
set_option linter.unusedSimpArgs false

-- NOT PRINTED: function 66 (api_Node_66)

-- NOT PRINTED: function 32 (tree_begin)

-- NOT PRINTED: function 71 (tree_work_walk)

-- NOT PRINTED: function 54 (tree_work_order)

/-! ### tree_Walk: function 21 -/
open Go.Proofs.YtfapmcpmfeigbaaDoor.Tr Go.Proofs.YtfapmcpmfeigbaaDoor.Tm
def tree_Walk.okN (l : List S57) : Bool := decide (l.length ≤ 1000000)
def tree_Walk.nd (s : S57) : Nd := ⟨s.f0, s.f1, s.f2, s.f3, s.f4, s.f5⟩
def tree_Walk.un (n : Nd) : S57 := ⟨n.inn, n.red, n.v, n.l, n.r, n.u⟩
theorem tree_Walk.inC {w : World} {A : Option Addr} {l : List S57} (h : Kd.C k57 w A l.length l) : kn.C w A (l.map tree_Walk.nd).length (l.map tree_Walk.nd) := by
  rw [List.length_map]
  refine Tk.C_iso.2 ?_
  have h2 := Tk.C_iso.1 h
  rw [List.map_map]
  exact h2
theorem tree_Walk.outR {w : World} {base : Nat} {ok : Nat → Prop} {v : Value} {l : List Nd} (h : kn.R 57 w base ok v l) : Kd.R k57 57 w base ok v (l.map tree_Walk.un) := by
  refine Tk.R_iso.2 ?_
  have h2 := Tk.R_iso.1 h
  rw [List.map_map]
  exact h2
def tree_Walk.un2 (k : Int × Int) : S27 := ⟨k.1, k.2⟩
theorem tree_Walk.outK {w : World} {base : Nat} {ok : Nat → Prop} {v : Value} {l : List (Int × Int)} (h : Tk.kp.R 27 w base ok v l) : Kd.R k27 27 w base ok v (l.map tree_Walk.un2) := by
  refine Tk.R_iso.2 ?_
  rw [List.map_map]
  have e : ((fun x : S27 => (x.f0, x.f1)) ∘ tree_Walk.un2) = id := rfl
  rw [e, List.map_id]
  exact h
def tree_Walk.f (a0_0 : Int) (l0_1 : List S57) : Option (List S27) := if tree_Walk.okN l0_1 = true then some ((walkA ⟨l0_1.map tree_Walk.nd, a0_0⟩).map tree_Walk.un2) else none
theorem tree_Walk.calls (a0_0 : Int) (A0_1 : Option Addr) (c0_1 : Nat) (l0_1 : List (S57))  (r : List (S27)) (w : World) (hr0_1 : Kd.C k57 w A0_1 l0_1.length l0_1) (hc0_1 : l0_1.length ≤ c0_1) (hT : Tm.Emp w) (h : tree_Walk.f a0_0 l0_1  = some r) :
    Calls Tryd.prog 21 #[.agg #[.int .i64 a0_0, .slice A0_1 l0_1.length c0_1]] w fun e w' => ∃ v0_ : Value, e = .returned v0_ ∧ Kd.R k27 27 w' w.heap.size (fun _ => True) v0_ r ∧ Below w.heap.size w w' := by
  unfold tree_Walk.f at h
  by_cases c : tree_Walk.okN l0_1 = true
  · rw [if_pos c] at h
    have hl : (l0_1.map tree_Walk.nd).length ≤ 1000000 := by rw [List.length_map]; exact of_decide_eq_true c
    obtain rfl := Option.some.inj h
    have h2 := Walk_ (t := ⟨l0_1.map tree_Walk.nd, a0_0⟩) (w := w) A0_1 c0_1 (tree_Walk.inC hr0_1) hl hT
    simp only [List.length_map] at h2
    refine h2.mono ?_
    rintro e w' ⟨v, rfl, hR, hB⟩
    exact ⟨v, rfl, tree_Walk.outK hR, hB⟩
  · rw [if_neg c] at h
    cases h


-- NOT PRINTED: function 55 (tree_work_blacks)

/-! ### tree_Right: function 18 -/
open Go.Proofs.YtfapmcpmfeigbaaDoor.Tr Go.Proofs.YtfapmcpmfeigbaaDoor.Tm
def tree_Right.okN (l : List S57) : Bool := decide (l.length ≤ 1000000)
def tree_Right.nd (s : S57) : Nd := ⟨s.f0, s.f1, s.f2, s.f3, s.f4, s.f5⟩
def tree_Right.un (n : Nd) : S57 := ⟨n.inn, n.red, n.v, n.l, n.r, n.u⟩
theorem tree_Right.inC {w : World} {A : Option Addr} {l : List S57} (h : Kd.C k57 w A l.length l) : kn.C w A (l.map tree_Right.nd).length (l.map tree_Right.nd) := by
  rw [List.length_map]
  refine Tk.C_iso.2 ?_
  have h2 := Tk.C_iso.1 h
  rw [List.map_map]
  exact h2
theorem tree_Right.outR {w : World} {base : Nat} {ok : Nat → Prop} {v : Value} {l : List Nd} (h : kn.R 57 w base ok v l) : Kd.R k57 57 w base ok v (l.map tree_Right.un) := by
  refine Tk.R_iso.2 ?_
  have h2 := Tk.R_iso.1 h
  rw [List.map_map]
  exact h2
def tree_Right.f (a0_0 : Int) (l0_1 : List S57) (a1 : Int) : Option Bool := if tree_Right.okN l0_1 = true then some (rightA ⟨l0_1.map tree_Right.nd, a0_0⟩ a1) else none
theorem tree_Right.calls (a0_0 : Int) (A0_1 : Option Addr) (c0_1 : Nat) (l0_1 : List (S57)) (a1 : Int) (r : Bool) (w : World) (hr0_1 : Kd.C k57 w A0_1 l0_1.length l0_1) (hc0_1 : l0_1.length ≤ c0_1) (hT : Tm.Emp w) (h : tree_Right.f a0_0 l0_1 a1 = some r) :
    Calls Tryd.prog 18 #[.agg #[.int .i64 a0_0, .slice A0_1 l0_1.length c0_1], .int .u64 a1] w fun e w' => e = .returned (.bool r) ∧ Below w.heap.size w w' := by
  unfold tree_Right.f at h
  by_cases c : tree_Right.okN l0_1 = true
  · rw [if_pos c] at h
    have hl : (l0_1.map tree_Right.nd).length ≤ 1000000 := by rw [List.length_map]; exact of_decide_eq_true c
    obtain rfl := Option.some.inj h
    have h2 := Right_ (t := ⟨l0_1.map tree_Right.nd, a0_0⟩) (w := w) A0_1 c0_1 a1 (tree_Right.inC hr0_1) hl hT
    simp only [List.length_map] at h2
    exact h2
  · rw [if_neg c] at h
    cases h


-- NOT PRINTED: function 33 (tree_work_kid)

-- NOT PRINTED: function 35 (tree_work_hang)

-- NOT PRINTED: function 44 (tree_work_on)

-- NOT PRINTED: function 68 (tree_work_turn)

-- NOT PRINTED: function 36 (tree_work_mend)

-- NOT PRINTED: function 37 (tree_work_tree)

/-! ### tree_Insert: function 11 -/
open Go.Proofs.YtfapmcpmfeigbaaDoor.Tr Go.Proofs.YtfapmcpmfeigbaaDoor.Tm
def tree_Insert.okN (l : List S57) : Bool := decide (l.length ≤ 1000000)
def tree_Insert.nd (s : S57) : Nd := ⟨s.f0, s.f1, s.f2, s.f3, s.f4, s.f5⟩
def tree_Insert.un (n : Nd) : S57 := ⟨n.inn, n.red, n.v, n.l, n.r, n.u⟩
theorem tree_Insert.inC {w : World} {A : Option Addr} {l : List S57} (h : Kd.C k57 w A l.length l) : kn.C w A (l.map tree_Insert.nd).length (l.map tree_Insert.nd) := by
  rw [List.length_map]
  refine Tk.C_iso.2 ?_
  have h2 := Tk.C_iso.1 h
  rw [List.map_map]
  exact h2
theorem tree_Insert.outR {w : World} {base : Nat} {ok : Nat → Prop} {v : Value} {l : List Nd} (h : kn.R 57 w base ok v l) : Kd.R k57 57 w base ok v (l.map tree_Insert.un) := by
  refine Tk.R_iso.2 ?_
  have h2 := Tk.R_iso.1 h
  rw [List.map_map]
  exact h2
def tree_Insert.f (a0_0 : Int) (l0_1 : List S57) (a1 : Int) (a2_0 : Int) (a2_1 : Int) : Option (Int × (List S57) × Int) := if tree_Insert.okN l0_1 = true then (insA ⟨l0_1.map tree_Insert.nd, a0_0⟩ a1 (a2_0, a2_1)).map (fun r => (r.1.rt, r.1.ns.map tree_Insert.un, r.2)) else none
theorem tree_Insert.calls (a0_0 : Int) (A0_1 : Option Addr) (c0_1 : Nat) (l0_1 : List (S57)) (a1 : Int) (a2_0 : Int) (a2_1 : Int) (r1 : Int) (r2 : List (S57)) (r3 : Int) (w : World) (hr0_1 : Kd.C k57 w A0_1 l0_1.length l0_1) (hc0_1 : l0_1.length ≤ c0_1) (hT : Tm.Emp w) (h : tree_Insert.f a0_0 l0_1 a1 a2_0 a2_1 = some (r1, r2, r3)) :
    Calls Tryd.prog 11 #[.agg #[.int .i64 a0_0, .slice A0_1 l0_1.length c0_1], .int .u64 a1, .agg #[.int .u64 a2_0, .int .i64 a2_1]] w fun e w' => ∃ v1_ : Value, e = .returned (.tuple #[.agg #[.int .i64 r1, v1_], .int .i64 r3]) ∧ Kd.R k57 57 w' w.heap.size (fun _ => True) v1_ r2 ∧ Below w.heap.size w w' := by
  unfold tree_Insert.f at h
  by_cases c : tree_Insert.okN l0_1 = true
  · rw [if_pos c] at h
    have hl : (l0_1.map tree_Insert.nd).length ≤ 1000000 := by rw [List.length_map]; exact of_decide_eq_true c
    cases hm : insA (⟨l0_1.map tree_Insert.nd, a0_0⟩ : St) a1 (a2_0, a2_1) with
    | none => rw [hm] at h; cases h
    | some r =>
      rw [hm] at h
      have h := Option.some.inj h
      simp only [Prod.mk.injEq] at h
      obtain ⟨rfl, rfl, rfl⟩ := h
      have h2 := Insert_ (t := ⟨l0_1.map tree_Insert.nd, a0_0⟩) (w := w) A0_1 c0_1 a1 (a2_0, a2_1) r (tree_Insert.inC hr0_1) hl hT hm
      simp only [List.length_map] at h2
      refine h2.mono ?_
      rintro e w' ⟨v, rfl, hR, hB⟩
      exact ⟨v, rfl, tree_Insert.outR hR, hB⟩
  · rw [if_neg c] at h
    cases h


-- NOT PRINTED: function 50 (tree_work_fill)

/-! ### tree_Delete: function 13 -/
open Go.Proofs.YtfapmcpmfeigbaaDoor.Tr Go.Proofs.YtfapmcpmfeigbaaDoor.Tm
def tree_Delete.okN (l : List S57) : Bool := decide (l.length ≤ 1000000)
def tree_Delete.nd (s : S57) : Nd := ⟨s.f0, s.f1, s.f2, s.f3, s.f4, s.f5⟩
def tree_Delete.un (n : Nd) : S57 := ⟨n.inn, n.red, n.v, n.l, n.r, n.u⟩
theorem tree_Delete.inC {w : World} {A : Option Addr} {l : List S57} (h : Kd.C k57 w A l.length l) : kn.C w A (l.map tree_Delete.nd).length (l.map tree_Delete.nd) := by
  rw [List.length_map]
  refine Tk.C_iso.2 ?_
  have h2 := Tk.C_iso.1 h
  rw [List.map_map]
  exact h2
theorem tree_Delete.outR {w : World} {base : Nat} {ok : Nat → Prop} {v : Value} {l : List Nd} (h : kn.R 57 w base ok v l) : Kd.R k57 57 w base ok v (l.map tree_Delete.un) := by
  refine Tk.R_iso.2 ?_
  have h2 := Tk.R_iso.1 h
  rw [List.map_map]
  exact h2
def tree_Delete.f (a0_0 : Int) (l0_1 : List S57) (a1 : Int) (a2 : Int) : Option (Int × (List S57) × Int) := if tree_Delete.okN l0_1 = true then (delF ⟨l0_1.map tree_Delete.nd, a0_0⟩ a1 a2).map (fun r => (r.1.rt, r.1.ns.map tree_Delete.un, r.2)) else none
theorem tree_Delete.calls (a0_0 : Int) (A0_1 : Option Addr) (c0_1 : Nat) (l0_1 : List (S57)) (a1 : Int) (a2 : Int) (r1 : Int) (r2 : List (S57)) (r3 : Int) (w : World) (hr0_1 : Kd.C k57 w A0_1 l0_1.length l0_1) (hc0_1 : l0_1.length ≤ c0_1) (hT : Tm.Emp w) (h : tree_Delete.f a0_0 l0_1 a1 a2 = some (r1, r2, r3)) :
    Calls Tryd.prog 13 #[.agg #[.int .i64 a0_0, .slice A0_1 l0_1.length c0_1], .int .u64 a1, .int .i64 a2] w fun e w' => ∃ v1_ : Value, e = .returned (.tuple #[.agg #[.int .i64 r1, v1_], .int .i64 r3]) ∧ Kd.R k57 57 w' w.heap.size (fun _ => True) v1_ r2 ∧ Below w.heap.size w w' := by
  unfold tree_Delete.f at h
  by_cases c : tree_Delete.okN l0_1 = true
  · rw [if_pos c] at h
    have hl : (l0_1.map tree_Delete.nd).length ≤ 1000000 := by rw [List.length_map]; exact of_decide_eq_true c
    cases hm : delF (⟨l0_1.map tree_Delete.nd, a0_0⟩ : St) a1 a2 with
    | none => rw [hm] at h; cases h
    | some r =>
      rw [hm] at h
      have h := Option.some.inj h
      simp only [Prod.mk.injEq] at h
      obtain ⟨rfl, rfl, rfl⟩ := h
      have h2 := Delete_ (t := ⟨l0_1.map tree_Delete.nd, a0_0⟩) (w := w) A0_1 c0_1 a1 a2 r (tree_Delete.inC hr0_1) hl hT hm
      simp only [List.length_map] at h2
      refine h2.mono ?_
      rintro e w' ⟨v, rfl, hR, hB⟩
      exact ⟨v, rfl, tree_Delete.outR hR, hB⟩
  · rw [if_neg c] at h
    cases h


/-! ### tree_New: function 25 -/
open Go.Proofs.YtfapmcpmfeigbaaDoor.Tr Go.Proofs.YtfapmcpmfeigbaaDoor.Tm
def tree_New.okN (l : List S57) : Bool := decide (l.length ≤ 1000000)
def tree_New.nd (s : S57) : Nd := ⟨s.f0, s.f1, s.f2, s.f3, s.f4, s.f5⟩
def tree_New.un (n : Nd) : S57 := ⟨n.inn, n.red, n.v, n.l, n.r, n.u⟩
theorem tree_New.inC {w : World} {A : Option Addr} {l : List S57} (h : Kd.C k57 w A l.length l) : kn.C w A (l.map tree_New.nd).length (l.map tree_New.nd) := by
  rw [List.length_map]
  refine Tk.C_iso.2 ?_
  have h2 := Tk.C_iso.1 h
  rw [List.map_map]
  exact h2
theorem tree_New.outR {w : World} {base : Nat} {ok : Nat → Prop} {v : Value} {l : List Nd} (h : kn.R 57 w base ok v l) : Kd.R k57 57 w base ok v (l.map tree_New.un) := by
  refine Tk.R_iso.2 ?_
  have h2 := Tk.R_iso.1 h
  rw [List.map_map]
  exact h2
def tree_New.f (a0 : Int) : Option (Int × (List S57) × Int) := some ((newA a0).1.rt, (newA a0).1.ns.map tree_New.un, (newA a0).2)
theorem tree_New.calls (a0 : Int) (r1 : Int) (r2 : List (S57)) (r3 : Int) (w : World) (hT : Tm.Emp w) (h : tree_New.f a0 = some (r1, r2, r3)) :
    Calls Tryd.prog 25 #[.int .i64 a0] w fun e w' => ∃ v1_ : Value, e = .returned (.tuple #[.agg #[.int .i64 r1, v1_], .int .i64 r3]) ∧ Kd.R k57 57 w' w.heap.size (fun _ => True) v1_ r2 ∧ Below w.heap.size w w' := by
  have h := Option.some.inj h
  simp only [Prod.mk.injEq] at h
  obtain ⟨rfl, rfl, rfl⟩ := h
  refine (New_ a0 w hT).mono ?_
  rintro e w' ⟨v, rfl, hR, hB⟩
  exact ⟨v, rfl, tree_New.outR hR, hB⟩


/-! ### turnspitlaw09_awake: function 10 -/
def turnspitlaw09_awake.f : Option Bool := some true
theorem turnspitlaw09_awake.calls (r : Bool) (w : World) (hT : Tm.Emp w) (h : turnspitlaw09_awake.f = some r) :
    Calls Tryd.prog 10 #[] w fun e w' => e = .returned (.bool r) ∧ Below w.heap.size w w' := by
  obtain rfl := Option.some.inj h
  exact Tm.awake_ w hT


end Go.Proofs.YtfapmcpmfeigbaaDoor.QTreeHolds
