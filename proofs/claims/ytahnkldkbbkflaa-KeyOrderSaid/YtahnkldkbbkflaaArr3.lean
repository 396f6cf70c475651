/- An argument that is an array of three whole numbers. No condition. Written by hand. -/
import Derived.Test.YtahnkldkbbkflaaOpen
namespace Go.Proofs.Ytahnkldkbbkflaa.Opn
open Go Go.RowKit Go.Deep Go.ChangeShapes Go.WideShapes Go.ChangeAt Go.Proofs.YtahnkldkbbkflaaW.PrintWords Go.Proofs.YtahnkldkbbkflaaW.PrintLast Go.Proofs.YtahnkldkbbkflaaW.PrintMore
set_option linter.unusedVariables false
theorem Op.arg_ints3 {P : Program} {W : World} {t e : TypeId} {k : IntKind} (ht : P.underlying t = some (.array 3 e)) (hte : P.underlying e = some (.int k)) (hce : P.cellsOf e = 1) (hct : P.cellsOf t = 3) {H : Type} {enc : TypeId × Value → H} {base : Nat} {v : Value} {x : DataW H} {ps : List MemPlace}
    (hv : Value.okWide P W .any base t v) (h : DataW.Trod enc P W 0 (fun _ => true) true t v x ps) : ∃ a b c, v = .agg #[.int k a, .int k b, .int k c] ∧ (Lit.int k a).wf = true ∧ (Lit.int k b).wf = true ∧ (Lit.int k c).wf = true := by
  simp only [Value.okWide, ht] at hv
  obtain ⟨cs, rfl, _, _⟩ := hv
  obtain ⟨m, hm⟩ := h
  obtain ⟨xs, n, _, _, hl, hlen, hf⟩ := DataW.trod_array ht hm
  rw [hct] at hl
  obtain ⟨l⟩ := cs
  have hl2 : l.length = 3 := by simpa [Value.cells] using hl
  match l, hl2, xs, hlen with
  | [u0, u1, u2], _, [y0, y1, y2], _ =>
    have e0 := hf 0 (by omega)
    have e1 := hf 1 (by omega)
    have e2 := hf 2 (by omega)
    rw [hce] at e0 e1 e2
    simp only [Value.cells, List.getElem?_cons_zero, List.getElem?_cons_succ] at e0 e1 e2
    obtain ⟨a, h0, _, w0⟩ := DataW.trod_int hte e0
    obtain ⟨b, h1, _, w1⟩ := DataW.trod_int hte e1
    obtain ⟨c, h2, _, w2⟩ := DataW.trod_int hte e2
    simp at h0 h1 h2
    subst h0 h1 h2
    exact ⟨a, b, c, rfl, w0, w1, w2⟩
end Go.Proofs.Ytahnkldkbbkflaa.Opn
