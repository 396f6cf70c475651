/- Parts of the proof, joined: PureQueueNew, TmL. -/
import Derived.Test.YtnkhnnojdlgfjaaDoorUE44
import Derived.Test.YtnkhnnojdlgfjaaDoorUE46
import Derived.Test.YtnkhnnojdlgfjaaDoorUE45
import Derived.Test.YtnkhnnojdlgfjaaDoorUE47
import Derived.Test.YtnkhnnojdlgfjaaDoorUE48
import Derived.Test.YtnkhnnojdlgfjaaDoorUE49
import Derived.Test.YtnkhnnojdlgfjaaDoorUE10
import Derived.Test.YtnkhnnojdlgfjaaDoorRows
import Derived.LaidMore
import Derived.Lib.LaidTab
import Derived.ChangeArms
import Derived.ChangeSame
import Derived.FnData
import Derived.MakeChecks
section
namespace Go.Proofs.YtnkhnnojdlgfjaaDoor.QQueueNew
open Go.RowKit Go Go.Proofs Go.Proofs.YtnkhnnojdlgfjaaDoor Go.Proofs.YtnkhnnojdlgfjaaDoor.Tr Go.Proofs.YtnkhnnojdlgfjaaDoor.Tk Go.Proofs.YtnkhnnojdlgfjaaDoorW.PrintWords Go.Proofs.YtnkhnnojdlgfjaaDoorW.PrintLast
theorem q_step {zs : List Int} (hz : zs.length ≤ 1000) (p0 : Int) (p1 : List S74) (p2 p3 p4 p5 : Int) (o0 : Int) (o1 : List S74) (o2 o3 o4 o5 : Int) : ∀ (d i k : Nat), d + i = zs.length → d < k →
    turnspitref12_Same.l0 k (i : Int) p0 p1 p2 p3 p4 p5 zs o0 o1 o2 o3 o4 o5 zs = some true
  | 0, i, k + 1, hi, _ => by rw [turnspitref12_Same.l0, if_neg (by omega)]
  | d + 1, i, k + 1, hi, hk => by
    rw [turnspitref12_Same.l0, if_pos (by omega), if_pos (by omega), if_pos (by omega), if_pos rfl, show wrap64 ((i : Int) + 1) = ((i + 1 : Nat) : Int) from by unfold wrap64; omega]
    exact q_step hz p0 p1 p2 p3 p4 p5 o0 o1 o2 o3 o4 o5 d (i + 1) k (by omega) (by omega)
def okN (n : Nat) : Bool := match tree_New.f (n : Int), turnspitref09_New.f 80 (n : Int) with
  | some a, some b => a.2.2 == 0 && (b.2.2 == 0 && turnspitref09_Same.f 80 a.1 a.2.1 b.1 b.2.1 == some true)
  | _, _ => false
theorem trees : (List.range 65).all okN = true := by kernel_rfl
theorem new_pure : turnspitlaw12_QueueNew.Pure := by
  intro a0 a1 w0 w1
  by_cases h : a0 < 0 ∨ 64 < a0
  · refine ⟨3, ?_⟩
    have e1 : tree_New.f a0 = some (0, [], 1) := by
      unfold tree_New.f Tm.newA
      rw [if_pos h]
      rfl
    have e2 : turnspitref09_New.f 3 a0 = some (0, [], 1) := by
      unfold turnspitref09_New.f
      by_cases h0 : a0 < 0
      · rw [if_pos h0]; rfl
      · rw [if_neg h0, show decide (a0 > 64) = true from decide_eq_true (by omega)]; rfl
    unfold turnspitlaw12_QueueNew.f queue_New.f turnspitref12_New.f
    rw [e1, e2]
    rfl
  · refine ⟨80, ?_⟩
    obtain ⟨n, rfl⟩ : ∃ n : Nat, a0 = (n : Int) := ⟨a0.toNat, by omega⟩
    have ht := List.all_eq_true.1 trees n (List.mem_range.2 (by omega))
    unfold okN at ht
    cases e1 : tree_New.f (n : Int) with
    | none => rw [e1] at ht; cases ht
    | some a =>
      cases e2 : turnspitref09_New.f 80 (n : Int) with
      | none => rw [e1, e2] at ht; cases ht
      | some b =>
        rw [e1, e2] at ht
        simp only [Bool.and_eq_true, beq_iff_eq] at ht
        obtain ⟨h1, h2, h3⟩ := ht
        have f1 : queue_New.f (n : Int) a1 = some (a.1, a.2.1, -1, 0, a1, 0, List.replicate n 0, 0) := by
          unfold queue_New.f
          rw [e1, Option.bind_some, if_pos h1, if_pos (by omega), Int.toNat_natCast, if_pos (by omega)]
        have f2 : turnspitref12_New.f 80 (n : Int) a1 = some (b.1, b.2.1, -1, 0, a1, 0, List.replicate n 0, 0) := by
          unfold turnspitref12_New.f
          rw [e2, Option.bind_some, if_pos h2, if_pos (by omega), Int.toNat_natCast, if_pos (by omega)]
        have f3 : turnspitref12_Same.f 80 a.1 a.2.1 (-1) 0 a1 0 (List.replicate n 0) b.1 b.2.1 (-1) 0 a1 0 (List.replicate n 0) = some true := by
          unfold turnspitref12_Same.f
          rw [h3, Option.bind_some, if_pos rfl, if_pos rfl, if_pos rfl, if_pos rfl, if_pos rfl, turnspitref12_Same.j0, if_neg (by simp)]
          exact q_step (by rw [List.length_replicate]; omega) _ _ _ _ _ _ _ _ _ _ _ _ n 0 79 (by rw [List.length_replicate]; omega) (by omega)
        unfold turnspitlaw12_QueueNew.f
        rw [f1, f2]
        simp only [Option.bind_some]
        rw [f3]
        rfl
end Go.Proofs.YtnkhnnojdlgfjaaDoor.QQueueNew
namespace Go.Proofs.YtnkhnnojdlgfjaaDoor.Pure
open Go.Proofs.YtnkhnnojdlgfjaaDoor
theorem QueueNew : QQueueNew.turnspitlaw12_QueueNew.Pure := QQueueNew.new_pure
end Go.Proofs.YtnkhnnojdlgfjaaDoor.Pure
end
section
namespace Go.Proofs.YtnkhnnojdlgfjaaDoor.Tm
open Go.RowKit Go Go.Proofs Go.Proofs.YtnkhnnojdlgfjaaDoor Go.Proofs.YtnkhnnojdlgfjaaDoor.Tr
set_option linter.unusedVariables false
set_option linter.unusedSimpArgs false
theorem gE : Tryd.prog.globalNamed "turnspit/tree.empty" = some 0 := by kernel_rfl
theorem tE : (Tryd.prog.globals[0]?).map (·.type) = some 74 := by kernel_rfl
theorem u4 : Tryd.prog.cellsOf 4 = 1 := by kernel_rfl
theorem u25 : Tryd.prog.cellsOf 22 = 1 := by kernel_rfl
theorem u3 : Tryd.prog.cellsOf 3 = 1 := by kernel_rfl
theorem one_bool {H : Type} {enc : TypeId × Value → H} {W : World} {base : Nat} {sp : Nat → Bool} {held : Bool} {n : Nat} {cs : List Value} {i : Nat} {y : DataW H × List MemPlace} {b : Bool} (h : DataW.trod enc Tryd.prog W base sp held n 4 ((cs.drop i).take 1) = some y) (hy : y.1 = .lit (.bool b)) : cs[i]? = some (.bool b) := by
  obtain ⟨b', hc, rfl⟩ := DataW.trod_bool Tryd.underlying4 h
  simp only [DataW.lit.injEq, Lit.bool.injEq] at hy
  subst hy
  have := congrArg (·[0]?) hc
  simpa [List.getElem?_take, List.getElem?_drop] using this
theorem one_int {H : Type} {enc : TypeId × Value → H} {W : World} {base : Nat} {sp : Nat → Bool} {held : Bool} {n : Nat} {cs : List Value} {i : Nat} {t : TypeId} {k : IntKind} (ht : Tryd.prog.underlying t = some (.int k)) {y : DataW H × List MemPlace} {z : Int} (h : DataW.trod enc Tryd.prog W base sp held n t ((cs.drop i).take 1) = some y) (hy : y.1 = .lit (.int k z)) : cs[i]? = some (.int k z) := by
  obtain ⟨z', hc, rfl, _⟩ := DataW.trod_int ht h
  simp only [DataW.lit.injEq, Lit.int.injEq, true_and] at hy
  subst hy
  have := congrArg (·[0]?) hc
  simpa [List.getElem?_take, List.getElem?_drop] using this
set_option maxRecDepth 100000 in
/-- what the row's condition gives -/
theorem Emp_of_laid {W : World} (h : laidMetH Tryd.prog [("turnspit/tree.empty", Rows.laid_turnspit_tree_empty)] W) : Emp W := by
  rw [MakeChecks.laidMetH_plain _ _ _ (by kernel_rfl)] at h
  obtain ⟨ps, ⟨g', t', cs, fuel, p, q, hg', ht', hvar, hd, _, _⟩, _⟩ := h
  obtain rfl := Option.some.inj (gE.symm.trans hg')
  obtain rfl := Option.some.inj (tE.symm.trans ht')
  obtain ⟨xs, n, _, hx, hl, hlen, hf⟩ := DataW.trod_struct Tryd.underlying74 hd
  have hc := fun i => World.var?_cell gE hvar i
  match xs, hlen with
  | [y0, y1, y2, y3, y4, y5], _ =>
    have hx1 := congrArg Prod.fst hx
    simp only [Rows.laid_turnspit_tree_empty, List.map_cons, List.map_nil, DataW.agg.injEq, List.cons.injEq, and_true] at hx1
    obtain ⟨e0, e1, e2, e3, e4, e5⟩ := hx1
    have f0 := hf 0 _ rfl
    have f1 := hf 1 _ rfl
    have f2 := hf 2 _ rfl
    have f3 := hf 3 _ rfl
    have f4 := hf 4 _ rfl
    have f5 := hf 5 _ rfl
    simp only [u4, u25, u3, List.getElem_cons_zero, List.getElem_cons_succ, List.getElem?_cons_zero, List.getElem?_cons_succ] at f0 f1 f2 f3 f4 f5
    have g0 := one_bool f0 e0.symm
    have g1 := one_bool f1 e1.symm
    have g2 := one_int Tryd.underlying22 f2 e2.symm
    have g3 := one_int Tryd.underlying3 f3 e3.symm
    have g4 := one_int Tryd.underlying3 f4 e4.symm
    have g5 := one_int Tryd.underlying3 f5 e5.symm
    have c0 := (hc 0).trans ((Array.getElem?_toList).symm.trans g0)
    exact ⟨World.block_lt_of_cell? W _ c0, c0, (hc 1).trans ((Array.getElem?_toList).symm.trans g1), (hc 2).trans ((Array.getElem?_toList).symm.trans g2), (hc 3).trans ((Array.getElem?_toList).symm.trans g3), (hc 4).trans ((Array.getElem?_toList).symm.trans g4), (hc 5).trans ((Array.getElem?_toList).symm.trans g5)⟩
end Go.Proofs.YtnkhnnojdlgfjaaDoor.Tm
end
