/- Parts of the proof, joined: QTreeTellsx14. -/
import Derived.Test.YtfapmcpmfeigbaaDoorUA32
namespace Go.Proofs.YtfapmcpmfeigbaaDoor.QTreeTells
open Go.RowKit Go.Proofs.YtfapmcpmfeigbaaDoorW.PrintWords Go.Proofs.YtfapmcpmfeigbaaDoorW.PrintLast Go.Proofs.YtfapmcpmfeigbaaDoorW.PrintMore
attribute [local go_sem] max2_int min2_int max_two min_two max_three min_three max_four min_four   -- for this text's walks alone
set_option linter.unusedVariables false
set_option linter.unusedSimpArgs false
open Go.Proofs.YtfapmcpmfeigbaaDoor.Tr Go.Proofs.YtfapmcpmfeigbaaDoor.Tm
def turnspitref09_Height.okN (l : List S57) : Bool := decide (l.length ≤ 1000000)
def turnspitref09_Height.nd (s : S57) : Nd := ⟨s.f0, s.f1, s.f2, s.f3, s.f4, s.f5⟩
theorem turnspitref09_Height.inC {w : World} {A : Option Addr} {l : List S57} (h : Kd.C k57 w A l.length l) : kn.C w A (l.map turnspitref09_Height.nd).length (l.map turnspitref09_Height.nd) := by
  rw [List.length_map]
  refine Tk.C_iso.2 ?_
  have h2 := Tk.C_iso.1 h
  rw [List.map_map]
  exact h2
def turnspitref09_Height.f (a0_0 : Int) (l0_1 : List S57) : Option Int := if turnspitref09_Height.okN l0_1 = true then some (heightA ⟨l0_1.map turnspitref09_Height.nd, a0_0⟩) else none
theorem turnspitref09_Height.calls (a0_0 : Int) (A0_1 : Option Addr) (c0_1 : Nat) (l0_1 : List (S57))  (r : Int) (w : World) (hr0_1 : Kd.C k57 w A0_1 l0_1.length l0_1) (hc0_1 : l0_1.length ≤ c0_1) (hT : Tm.Emp w) (h : turnspitref09_Height.f a0_0 l0_1  = some r) :
    Calls Tryd.prog 24 #[.agg #[.int .i64 a0_0, .slice A0_1 l0_1.length c0_1]] w fun e w' => e = .returned (.int .i64 r) ∧ Below w.heap.size w w' := by
  unfold turnspitref09_Height.f at h
  by_cases c : turnspitref09_Height.okN l0_1 = true
  · rw [if_pos c] at h
    have hl : (l0_1.map turnspitref09_Height.nd).length ≤ 1000000 := by rw [List.length_map]; exact of_decide_eq_true c
    obtain rfl := Option.some.inj h
    have h2 := rHeight_ (t := ⟨l0_1.map turnspitref09_Height.nd, a0_0⟩) (w := w) A0_1 c0_1 (turnspitref09_Height.inC hr0_1) hl
    simp only [List.length_map] at h2
    exact h2
  · rw [if_neg c] at h
    cases h
end Go.Proofs.YtfapmcpmfeigbaaDoor.QTreeTells
