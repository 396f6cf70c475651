/- Parts of the proof, joined: QTreeMadex6, QTreeMadex11, QTreeMadex1. -/
import Derived.Test.YtfapmcpmfeigbaaDoorUB32
section
namespace Go.Proofs.YtfapmcpmfeigbaaDoor.QTreeMade
open Go.RowKit Go.Proofs.YtfapmcpmfeigbaaDoorW.PrintWords Go.Proofs.YtfapmcpmfeigbaaDoorW.PrintLast Go.Proofs.YtfapmcpmfeigbaaDoorW.PrintMore
attribute [local go_sem] max2_int min2_int max_two min_two max_three min_three max_four min_four   -- for this text's walks alone
set_option linter.unusedVariables false
set_option linter.unusedSimpArgs false
attribute [local go_sem high] eqA57
open Go.Proofs.YtfapmcpmfeigbaaDoor.Tr Go.Proofs.YtfapmcpmfeigbaaDoor.Tm
def turnspitref09_Walk.okN (l : List S57) : Bool := decide (l.length ≤ 1000000)
def turnspitref09_Walk.nd (s : S57) : Nd := ⟨s.f0, s.f1, s.f2, s.f3, s.f4, s.f5⟩
theorem turnspitref09_Walk.inC {w : World} {A : Option Addr} {l : List S57} (h : Kd.C k57 w A l.length l) : kn.C w A (l.map turnspitref09_Walk.nd).length (l.map turnspitref09_Walk.nd) := by
 rw [List.length_map]
 refine Tk.C_iso.2 ?_
 have h2 := Tk.C_iso.1 h
 rw [List.map_map]
 exact h2
def turnspitref09_Walk.un2 (k : Int × Int) : S27 := ⟨k.1, k.2⟩
theorem turnspitref09_Walk.outK {w : World} {base : Nat} {ok : Nat → Prop} {v : Value} {l : List (Int × Int)} (h : Tk.kp.R 27 w base ok v l) : Kd.R k27 27 w base ok v (l.map turnspitref09_Walk.un2) := by
 refine Tk.R_iso.2 ?_
 rw [List.map_map]
 have e : ((fun x : S27 => (x.f0, x.f1)) ∘ turnspitref09_Walk.un2) = id := rfl
 rw [e, List.map_id]
 exact h
def turnspitref09_Walk.f (a0_0 : Int) (l0_1 : List S57) : Option (List S27) := if turnspitref09_Walk.okN l0_1 = true then some ((walkA ⟨l0_1.map turnspitref09_Walk.nd, a0_0⟩).map turnspitref09_Walk.un2) else none
theorem turnspitref09_Walk.calls (a0_0 : Int) (A0_1 : Option Addr) (c0_1 : Nat) (l0_1 : List (S57))  (r : List (S27)) (w : World) (hr0_1 : Kd.C k57 w A0_1 l0_1.length l0_1) (hc0_1 : l0_1.length ≤ c0_1) (hT : Tm.Emp w) (h : turnspitref09_Walk.f a0_0 l0_1  = some r) :
  Calls Tryd.prog 22 #[.agg #[.int .i64 a0_0, .slice A0_1 l0_1.length c0_1]] w fun e w' => ∃ v0_ : Value, e = .returned v0_ ∧ Kd.R k27 27 w' w.heap.size (fun _ => True) v0_ r ∧ Below w.heap.size w w' := by
 unfold turnspitref09_Walk.f at h
 by_cases c : turnspitref09_Walk.okN l0_1 = true
 ·rw [if_pos c] at h
  have hl : (l0_1.map turnspitref09_Walk.nd).length ≤ 1000000 := by rw [List.length_map]; exact of_decide_eq_true c
  obtain rfl := Option.some.inj h
  have h2 := rWalk_ (t := ⟨l0_1.map turnspitref09_Walk.nd, a0_0⟩) (w := w) A0_1 c0_1 (turnspitref09_Walk.inC hr0_1) hl
  simp only [List.length_map] at h2
  refine h2.mono ?_
  rintro e w' ⟨v, rfl, hR, hB⟩
  exact ⟨v, rfl, turnspitref09_Walk.outK hR, hB⟩
 ·rw [if_neg c] at h
  cases h
end Go.Proofs.YtfapmcpmfeigbaaDoor.QTreeMade
end
section
namespace Go.Proofs.YtfapmcpmfeigbaaDoor.QTreeMade
open Go.RowKit Go.Proofs.YtfapmcpmfeigbaaDoorW.PrintWords Go.Proofs.YtfapmcpmfeigbaaDoorW.PrintLast Go.Proofs.YtfapmcpmfeigbaaDoorW.PrintMore
attribute [local go_sem] max2_int min2_int max_two min_two max_three min_three max_four min_four   -- for this text's walks alone
set_option linter.unusedVariables false
set_option linter.unusedSimpArgs false
open Go.Proofs.YtfapmcpmfeigbaaDoor.Tr Go.Proofs.YtfapmcpmfeigbaaDoor.Tm
def turnspitref09_Insert.okN (l : List S57) : Bool := decide (l.length ≤ 1000000)
def turnspitref09_Insert.nd (s : S57) : Nd := ⟨s.f0, s.f1, s.f2, s.f3, s.f4, s.f5⟩
def turnspitref09_Insert.un (n : Nd) : S57 := ⟨n.inn, n.red, n.v, n.l, n.r, n.u⟩
theorem turnspitref09_Insert.inC {w : World} {A : Option Addr} {l : List S57} (h : Kd.C k57 w A l.length l) : kn.C w A (l.map turnspitref09_Insert.nd).length (l.map turnspitref09_Insert.nd) := by
 rw [List.length_map]
 refine Tk.C_iso.2 ?_
 have h2 := Tk.C_iso.1 h
 rw [List.map_map]
 exact h2
theorem turnspitref09_Insert.outR {w : World} {base : Nat} {ok : Nat → Prop} {v : Value} {l : List Nd} (h : kn.R 57 w base ok v l) : Kd.R k57 57 w base ok v (l.map turnspitref09_Insert.un) := by
 refine Tk.R_iso.2 ?_
 have h2 := Tk.R_iso.1 h
 rw [List.map_map]
 exact h2
def turnspitref09_Insert.f (a0_0 : Int) (l0_1 : List S57) (a1 : Int) (a2_0 : Int) (a2_1 : Int) : Option (Int × (List S57) × Int) := if turnspitref09_Insert.okN l0_1 = true then (insA ⟨l0_1.map turnspitref09_Insert.nd, a0_0⟩ a1 (a2_0, a2_1)).map (fun r => (r.1.rt, r.1.ns.map turnspitref09_Insert.un, r.2)) else none
theorem turnspitref09_Insert.calls (a0_0 : Int) (A0_1 : Option Addr) (c0_1 : Nat) (l0_1 : List (S57)) (a1 : Int) (a2_0 : Int) (a2_1 : Int) (r1 : Int) (r2 : List (S57)) (r3 : Int) (w : World) (hr0_1 : Kd.C k57 w A0_1 l0_1.length l0_1) (hc0_1 : l0_1.length ≤ c0_1) (hT : Tm.Emp w) (h : turnspitref09_Insert.f a0_0 l0_1 a1 a2_0 a2_1 = some (r1, r2, r3)) :
  Calls Tryd.prog 12 #[.agg #[.int .i64 a0_0, .slice A0_1 l0_1.length c0_1], .int .u64 a1, .agg #[.int .u64 a2_0, .int .i64 a2_1]] w fun e w' => ∃ v1_ : Value, e = .returned (.tuple #[.agg #[.int .i64 r1, v1_], .int .i64 r3]) ∧ Kd.R k57 57 w' w.heap.size (fun _ => True) v1_ r2 ∧ Below w.heap.size w w' := by
 unfold turnspitref09_Insert.f at h
 by_cases c : turnspitref09_Insert.okN l0_1 = true
 ·rw [if_pos c] at h
  have hl : (l0_1.map turnspitref09_Insert.nd).length ≤ 1000000 := by rw [List.length_map]; exact of_decide_eq_true c
  cases hm : insA (⟨l0_1.map turnspitref09_Insert.nd, a0_0⟩ : St) a1 (a2_0, a2_1) with
  | none => rw [hm] at h; cases h
  | some r =>
   rw [hm] at h
   have h := Option.some.inj h
   simp only [Prod.mk.injEq] at h
   obtain ⟨rfl, rfl, rfl⟩ := h
   have h2 := rInsert_ (t := ⟨l0_1.map turnspitref09_Insert.nd, a0_0⟩) (w := w) A0_1 c0_1 a1 (a2_0, a2_1) r (turnspitref09_Insert.inC hr0_1) (by rw [List.length_map]; exact hc0_1) hl hm
   simp only [List.length_map] at h2
   refine h2.mono ?_
   rintro e w' ⟨v, rfl, hR, hB⟩
   exact ⟨v, rfl, turnspitref09_Insert.outR hR, hB⟩
 ·rw [if_neg c] at h
  cases h
end Go.Proofs.YtfapmcpmfeigbaaDoor.QTreeMade
end
section
namespace Go.Proofs.YtfapmcpmfeigbaaDoor.QTreeMade
open Go.RowKit Go.Proofs.YtfapmcpmfeigbaaDoorW.PrintWords Go.Proofs.YtfapmcpmfeigbaaDoorW.PrintLast Go.Proofs.YtfapmcpmfeigbaaDoorW.PrintMore
attribute [local go_sem] max2_int min2_int max_two min_two max_three min_three max_four min_four   -- for this text's walks alone
set_option linter.unusedVariables false
set_option linter.unusedSimpArgs false
theorem eqA27 (d : Nat) (w : World) (x0 y0 : Int) (x1 y1 : Int) :
  (Op.equalIn (d + 2) 27 (.agg #[.int .u64 x0, .int .i64 x1]) (.agg #[.int .u64 y0, .int .i64 y1])).run Tryd.prog w = .ok (x0 == y0 && (x1 == y1)) w := by
 refine eqA_of Tryd.underlying27 (by kernel_rfl) ?_
 refine eqf_cons (by rfl) (by go_simp; rfl) (by go_simp; rfl) (by go_simp) ?_
 exact eqf_last (by rfl) (by go_simp; rfl) (by go_simp; rfl) (by go_simp)
end Go.Proofs.YtfapmcpmfeigbaaDoor.QTreeMade
end
