/- Parts of the proof, joined: QTreeTurnsx10. -/
import Derived.Test.YtfapmcpmfeigbaaDoorUD32
import Derived.Test.YtfapmcpmfeigbaaDoorUD33
namespace Go.Proofs.YtfapmcpmfeigbaaDoor.QTreeTurns
open Go.RowKit Go.Proofs.YtfapmcpmfeigbaaDoorW.PrintWords Go.Proofs.YtfapmcpmfeigbaaDoorW.PrintLast Go.Proofs.YtfapmcpmfeigbaaDoorW.PrintMore
attribute [local go_sem] kR kP vN vM jP jO kQ kN   -- for this text's walks alone
set_option linter.unusedVariables false
set_option linter.unusedSimpArgs false
open Go.Proofs.YtfapmcpmfeigbaaDoor.Tr Go.Proofs.YtfapmcpmfeigbaaDoor.Tm
def turnspitref09_Insert.okN (l : List S57) : Bool := decide (l.length ≤ 1000000)
def turnspitref09_Insert.nd (s : S57) : Nd := ⟨s.f0, s.f1, s.f2, s.f3, s.f4, s.f5⟩
def turnspitref09_Insert.un (n : Nd) : S57 := ⟨n.inn, n.red, n.v, n.l, n.r, n.u⟩
theorem turnspitref09_Insert.inC {w : World} {A : Option Addr} {l : List S57} (h : Kd.C k57 w A l.length l) : kn.C w A (l.map turnspitref09_Insert.nd).length (l.map turnspitref09_Insert.nd) := by
 rw [List.length_map]
 refine Tk.zbM.2 ?_
 have h2 := Tk.zbM.1 h
 rw [List.map_map]
 exact h2
theorem turnspitref09_Insert.outR {w : World} {base : Nat} {ok : Nat → Prop} {v : Value} {l : List Nd} (h : kn.R 57 w base ok v l) : Kd.R k57 57 w base ok v (l.map turnspitref09_Insert.un) := by
 refine Tk.zbL.2 ?_
 have h2 := Tk.zbL.1 h
 rw [List.map_map]
 exact h2
def turnspitref09_Insert.f (a0_0 : Int) (l0_1 : List S57) (a1 : Int) (a2_0 : Int) (a2_1 : Int) : Option (Int × (List S57) × Int) := if turnspitref09_Insert.okN l0_1 = true then (insA ⟨l0_1.map turnspitref09_Insert.nd, a0_0⟩ a1 (a2_0, a2_1)).map (fun r => (r.1.rt, r.1.ns.map turnspitref09_Insert.un, r.2)) else none
theorem turnspitref09_Insert.calls (a0_0 : Int) (A0_1 : Option Addr) (c0_1 : Nat) (l0_1 : List (S57)) (a1 : Int) (a2_0 : Int) (a2_1 : Int) (r1 : Int) (r2 : List (S57)) (r3 : Int) (w : World) (hr0_1 : Kd.C k57 w A0_1 l0_1.length l0_1) (hc0_1 : l0_1.length ≤ c0_1) (hT : Tm.Emp w) (h : turnspitref09_Insert.f a0_0 l0_1 a1 a2_0 a2_1 = some (r1, r2, r3)) :
  Calls Tryd.prog 12 #[.agg #[.int .i64 a0_0, .slice A0_1 l0_1.length c0_1], .int .u64 a1, .agg #[.int .u64 a2_0, .int .i64 a2_1]] w fun e w' => ∃ v1_ : Value, e = .returned (.tuple #[.agg #[.int .i64 r1, v1_], .int .i64 r3]) ∧ Kd.R k57 57 w' w.heap.size (fun _ => True) v1_ r2 ∧ Below w.heap.size w w' := by
 unfold turnspitref09_Insert.f at h
 by_cases c : turnspitref09_Insert.okN l0_1 = true
 rotate_left
 ·rw [if_neg c] at h
  cases h
 rw [if_pos c] at h
 have hl : (l0_1.map turnspitref09_Insert.nd).length ≤ 1000000 := by rw [List.length_map]; exact of_decide_eq_true c
 cases hm : insA (⟨l0_1.map turnspitref09_Insert.nd, a0_0⟩ : St) a1 (a2_0, a2_1) with
 | none => rw [hm] at h; cases h
 | some r =>
  rw [hm] at h
  have h := Option.some.inj h
  simp only [Prod.mk.injEq] at h
  obtain ⟨rfl, rfl, rfl⟩ := h
  have h2 := rInsert_ (t := ⟨l0_1.map turnspitref09_Insert.nd, a0_0⟩) (w := w) A0_1 c0_1 a1 (a2_0, a2_1) r (turnspitref09_Insert.inC hr0_1) (by rw [List.length_map]; exact hc0_1) hl hm
  simp only [List.length_map] at h2
  refine h2.mono ?_
  rintro e w' ⟨v, rfl, hR, hB⟩
  exact ⟨v, rfl, turnspitref09_Insert.outR hR, hB⟩
end Go.Proofs.YtfapmcpmfeigbaaDoor.QTreeTurns
