/- Parts of the proof, joined: WSized, TmL. -/
import Derived.SizedLaws
import Derived.ChangeSlices
import Derived.Test.YtnkhnnojdlgfjaaDoorUF10
import Derived.Test.YtnkhnnojdlgfjaaDoorRows
import Derived.LaidMore
import Derived.Lib.LaidTab
import Derived.ChangeArms
import Derived.ChangeSame
import Derived.FnData
import Derived.MakeChecks
section
namespace Go.Proofs.YtnkhnnojdlgfjaaDoorW.PrintWords
open Go.ChangeShapes Go.WideShapes
theorem sized_ints {H : Type} {enc : TypeId × Value → H} {P : Program} {W : World} {base : Nat} {spare : Nat → Bool} {held : Bool} {t e : TypeId} {k : IntKind} {a : Option Addr} {len cap : Nat} {d : DataW H} {ps : List MemPlace} {ts : List TypeId} {ds : List (DataW H)} {j : Nat}
    (hsz : (DataW.weightsEach P ts ds).all (· ≤ reachBytes) = true) (ht : ts[j]? = some t) (hd : ds[j]? = some d) (hu : P.underlying t = some (.slice e)) (he : P.underlying e = some (.int k)) (hc : P.cellsOf e = 1) {B : Nat} (hB : P.bytesOf e = B)
    (h : DataW.Trod enc P W base spare held t (.slice a len cap) d ps) : len * B ≤ 140737488351232 := by
  obtain ⟨fuel, hf⟩ := h
  rcases open_ints hu he hc hf with ⟨hcs, _⟩ | ⟨x, l, c, zs, hcs, _, hl, _, hz, hx, _, _⟩
  · simp [Value.cells] at hcs
    obtain ⟨rfl, rfl, rfl⟩ := hcs
    simp
  · simp [Value.cells] at hcs
    obtain ⟨rfl, rfl, rfl⟩ := hcs
    obtain ⟨hx, _⟩ := Prod.mk.inj hx
    subst hx
    have z := sized_slice hsz ht hd hu
    rw [hB] at z
    have hl2 : len ≤ zs.length := by
      rw [hz]
      split
      · exact hl
      · exact Nat.le_refl _
    have h1 : (lits (H := H) k (zs.take len)).length + (lits (H := H) k (zs.drop len)).length = zs.length := by
      simp [lits]
      omega
    rw [h1] at z
    exact Nat.le_trans (Nat.mul_le_mul_right _ hl2) z
end Go.Proofs.YtnkhnnojdlgfjaaDoorW.PrintWords
end
section
namespace Go.Proofs.YtnkhnnojdlgfjaaDoor.Tm
open Go.RowKit Go Go.Proofs Go.Proofs.YtnkhnnojdlgfjaaDoor Go.Proofs.YtnkhnnojdlgfjaaDoor.Tr
set_option linter.unusedVariables false
set_option linter.unusedSimpArgs false
theorem gE : Tryd.prog.globalNamed "turnspit/tree.empty" = some 0 := by kernel_rfl
theorem tE : (Tryd.prog.globals[0]?).map (·.type) = some 74 := by kernel_rfl
theorem u4 : Tryd.prog.cellsOf 4 = 1 := by kernel_rfl
theorem u25 : Tryd.prog.cellsOf 22 = 1 := by kernel_rfl
theorem u3 : Tryd.prog.cellsOf 3 = 1 := by kernel_rfl
theorem one_bool {H : Type} {enc : TypeId × Value → H} {W : World} {base : Nat} {sp : Nat → Bool} {held : Bool} {n : Nat} {cs : List Value} {i : Nat} {y : DataW H × List MemPlace} {b : Bool} (h : DataW.trod enc Tryd.prog W base sp held n 4 ((cs.drop i).take 1) = some y) (hy : y.1 = .lit (.bool b)) : cs[i]? = some (.bool b) := by
  obtain ⟨b', hc, rfl⟩ := DataW.trod_bool Tryd.underlying4 h
  simp only [DataW.lit.injEq, Lit.bool.injEq] at hy
  subst hy
  have := congrArg (·[0]?) hc
  simpa [List.getElem?_take, List.getElem?_drop] using this
theorem one_int {H : Type} {enc : TypeId × Value → H} {W : World} {base : Nat} {sp : Nat → Bool} {held : Bool} {n : Nat} {cs : List Value} {i : Nat} {t : TypeId} {k : IntKind} (ht : Tryd.prog.underlying t = some (.int k)) {y : DataW H × List MemPlace} {z : Int} (h : DataW.trod enc Tryd.prog W base sp held n t ((cs.drop i).take 1) = some y) (hy : y.1 = .lit (.int k z)) : cs[i]? = some (.int k z) := by
  obtain ⟨z', hc, rfl, _⟩ := DataW.trod_int ht h
  simp only [DataW.lit.injEq, Lit.int.injEq, true_and] at hy
  subst hy
  have := congrArg (·[0]?) hc
  simpa [List.getElem?_take, List.getElem?_drop] using this
set_option maxRecDepth 100000 in
/-- what the row's condition gives -/
theorem Emp_of_laid {W : World} (h : laidMetH Tryd.prog [("turnspit/tree.empty", Rows.laid_turnspit_tree_empty)] W) : Emp W := by
  rw [MakeChecks.laidMetH_plain _ _ _ (by kernel_rfl)] at h
  obtain ⟨ps, ⟨g', t', cs, fuel, p, q, hg', ht', hvar, hd, _, _⟩, _⟩ := h
  obtain rfl := Option.some.inj (gE.symm.trans hg')
  obtain rfl := Option.some.inj (tE.symm.trans ht')
  obtain ⟨xs, n, _, hx, hl, hlen, hf⟩ := DataW.trod_struct Tryd.underlying74 hd
  have hc := fun i => World.var?_cell gE hvar i
  match xs, hlen with
  | [y0, y1, y2, y3, y4, y5], _ =>
    have hx1 := congrArg Prod.fst hx
    simp only [Rows.laid_turnspit_tree_empty, List.map_cons, List.map_nil, DataW.agg.injEq, List.cons.injEq, and_true] at hx1
    obtain ⟨e0, e1, e2, e3, e4, e5⟩ := hx1
    have f0 := hf 0 _ rfl
    have f1 := hf 1 _ rfl
    have f2 := hf 2 _ rfl
    have f3 := hf 3 _ rfl
    have f4 := hf 4 _ rfl
    have f5 := hf 5 _ rfl
    simp only [u4, u25, u3, List.getElem_cons_zero, List.getElem_cons_succ, List.getElem?_cons_zero, List.getElem?_cons_succ] at f0 f1 f2 f3 f4 f5
    have g0 := one_bool f0 e0.symm
    have g1 := one_bool f1 e1.symm
    have g2 := one_int Tryd.underlying22 f2 e2.symm
    have g3 := one_int Tryd.underlying3 f3 e3.symm
    have g4 := one_int Tryd.underlying3 f4 e4.symm
    have g5 := one_int Tryd.underlying3 f5 e5.symm
    have c0 := (hc 0).trans ((Array.getElem?_toList).symm.trans g0)
    exact ⟨World.block_lt_of_cell? W _ c0, c0, (hc 1).trans ((Array.getElem?_toList).symm.trans g1), (hc 2).trans ((Array.getElem?_toList).symm.trans g2), (hc 3).trans ((Array.getElem?_toList).symm.trans g3), (hc 4).trans ((Array.getElem?_toList).symm.trans g4), (hc 5).trans ((Array.getElem?_toList).symm.trans g5)⟩
end Go.Proofs.YtnkhnnojdlgfjaaDoor.Tm
end
