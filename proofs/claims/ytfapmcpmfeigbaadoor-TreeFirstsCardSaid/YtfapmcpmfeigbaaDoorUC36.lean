/- Parts of the proof, joined: PureTreeFirsts, TmL, WSized. -/
import Derived.Test.YtfapmcpmfeigbaaDoorUC32
import Derived.Test.YtfapmcpmfeigbaaDoorUC33
import Derived.Test.YtfapmcpmfeigbaaDoorUC34
import Derived.Test.YtfapmcpmfeigbaaDoorUC35
import Derived.Test.YtfapmcpmfeigbaaDoorUC10
import Derived.Test.YtfapmcpmfeigbaaDoorRows
import Derived.LaidMore
import Derived.Lib.LaidTab
import Derived.ChangeArms
import Derived.ChangeSame
import Derived.FnData
import Derived.MakeChecks
import Derived.SizedLaws
import Derived.ChangeSlices
section
namespace Go.Proofs.YtfapmcpmfeigbaaDoor.QTreeFirsts
open Go.RowKit Go Go.Proofs Go.Proofs.YtfapmcpmfeigbaaDoor Go.Proofs.YtfapmcpmfeigbaaDoor.Tr Go.Proofs.YtfapmcpmfeigbaaDoor.Tk Go.Proofs.YtfapmcpmfeigbaaDoor.Tm Go.Proofs.YtfapmcpmfeigbaaDoorW.PrintWords Go.Proofs.YtfapmcpmfeigbaaDoorW.PrintLast
set_option linter.unusedVariables false
def un : K → S27 := tree_Walk.un2
theorem nd_un (l : List Nd) : (l.map turnspitref09_Insert.un).map turnspitref09_Insert.nd = l := by
 rw [List.map_map]; exact List.map_id l
theorem ins_f (t : St) (mn v i : Int) (h : t.ns.length ≤ 64) : turnspitref09_Insert.f t.rt (t.ns.map turnspitref09_Insert.un) mn v i = (insA t mn (v, i)).map (fun r => (r.1.rt, r.1.ns.map turnspitref09_Insert.un, r.2)) := by
 unfold turnspitref09_Insert.f
 rw [if_pos (show turnspitref09_Insert.okN _ = true from decide_eq_true (by rw [List.length_map]; omega)), nd_un]
theorem del_f (t : St) (mn i : Int) (h : t.ns.length ≤ 64) : tree_Delete.f t.rt (t.ns.map turnspitref09_Insert.un) mn i = (delF t mn i).map (fun r => (r.1.rt, r.1.ns.map turnspitref09_Insert.un, r.2)) := by
 unfold tree_Delete.f
 rw [if_pos (show tree_Delete.okN _ = true from decide_eq_true (by rw [List.length_map]; omega))]
 rw [show (t.ns.map turnspitref09_Insert.un).map tree_Delete.nd = t.ns from nd_un _]
 rfl
theorem walk_f (t : St) (h : t.ns.length ≤ 64) : tree_Walk.f t.rt (t.ns.map turnspitref09_Insert.un) = some ((walkA t).map un) := by
 unfold tree_Walk.f
 rw [if_pos (show tree_Walk.okN _ = true from decide_eq_true (by rw [List.length_map]; omega))]
 rw [show (t.ns.map turnspitref09_Insert.un).map tree_Walk.nd = t.ns from nd_un _]
 rfl
theorem height_f (t : St) (h : t.ns.length ≤ 64) : tree_Height.f t.rt (t.ns.map turnspitref09_Insert.un) = some (heightA t) := by
 unfold tree_Height.f
 rw [if_pos (show tree_Height.okN _ = true from decide_eq_true (by rw [List.length_map]; omega))]
 rw [show (t.ns.map turnspitref09_Insert.un).map tree_Height.nd = t.ns from nd_un _]
theorem rins_f (t : St) (mn v i : Int) (h : t.ns.length ≤ 64) : turnspitref09_Insert.f t.rt (t.ns.map turnspitref09_Insert.un) mn v i = (insA t mn (v, i)).map (fun r => (r.1.rt, r.1.ns.map turnspitref09_Insert.un, r.2)) := ins_f t mn v i h
theorem rdel_f (t : St) (mn i : Int) (h : t.ns.length ≤ 64) : turnspitref09_Delete.f t.rt (t.ns.map turnspitref09_Insert.un) mn i = (delF t mn i).map (fun r => (r.1.rt, r.1.ns.map turnspitref09_Insert.un, r.2)) := del_f t mn i h
theorem op_f (mn x : Int) (hx : 0 ≤ x ∧ x ≤ 65535) : ∃ b v id, turnspitlaw09_Op.f mn x 24 = some (b, v, id) ∧ 0 ≤ id ∧ id < 24 := by
 refine ⟨_, _, _, by unfold turnspitlaw09_Op.f; rw [if_neg (by omega)], ?_⟩
 have e : wrap64 (Int.tdiv (wrap64 x) 4) = x / 4 := by
  rw [show wrap64 x = x from by unfold wrap64; omega, Int.tdiv_eq_ediv_of_nonneg hx.1]
  unfold wrap64; omega
 rw [e, Int.tmod_eq_emod_of_nonneg (by omega)]
 omega
theorem new_evt : Evt (fun k => turnspitref09_New.f k 24) ((newA 24).1.rt, (newA 24).1.ns.map turnspitref09_Insert.un, 0) := by
 refine ⟨30, fun k hk => ?_⟩
 obtain ⟨d, rfl⟩ : ∃ d, k = 30 + d := ⟨k - 30, by omega⟩
 clear hk
 show turnspitref09_New.f (30 + d) 24 = _
 induction d with
 | zero => kernel_rfl
 | succ d ih => exact turnspitref09_New.mono 24 (30 + d) _ ih
theorem u16 {x : Int} (hx : (Lit.int .u16 x).wf = true) : 0 ≤ x ∧ x ≤ 65535 := by
 simp [Lit.wf, IntKind.min, IntKind.max, IntKind.signed, IntKind.bits] at hx
 omega
theorem made_loop (mn : Int) (ls : List Int) (hw : ∀ x ∈ ls, (Lit.int .u16 x).wf = true) : ∀ (d i : Nat) (t : St) (L : List K), J mn 24 t L → 60 ≤ d + i →
  ∃ t' L', J mn 24 t' L' ∧ Evt (fun k => turnspitlaw09_Made.l0 k mn ls (i : Int) t.rt (t.ns.map turnspitref09_Insert.un)) (t'.rt, t'.ns.map turnspitref09_Insert.un) := by
 have done : ∀ (i : Nat) (t : St) (L : List K), J mn 24 t L → ¬ (i < ls.length ∧ i < 60) → ∃ t' L', J mn 24 t' L' ∧ Evt (fun k => turnspitlaw09_Made.l0 k mn ls (i : Int) t.rt (t.ns.map turnspitref09_Insert.un)) (t'.rt, t'.ns.map turnspitref09_Insert.un) := by
  intro i t L hJ hlt
  refine ⟨t, L, hJ, Evt.step (h := fun k => turnspitlaw09_Made.j1 k mn ls (i : Int) false t.rt (t.ns.map turnspitref09_Insert.un)) ?_ fun k => ?_⟩
  ·refine Evt.step (Evt.now _) fun k => ?_
   rw [turnspitlaw09_Made.j1, if_neg (by simp)]
  ·rw [turnspitlaw09_Made.l0]
   split
   ·rw [show decide ((i : Int) < 60) = false from decide_eq_false (by omega)]
   ·rfl
 intro d
 induction d with
 | zero => exact fun i t L h hi => done i t L h (by omega)
 | succ d ih =>
  intro i t L h hi
  by_cases hlt : i < ls.length ∧ i < 60
  ·have hx := hw (ls[i]) (List.getElem_mem hlt.1)
   have hr : rd ls (i : Int) = ls[i] := by
    unfold rd
    rw [Int.toNat_natCast, List.getD_eq_getElem?_getD, List.getElem?_eq_getElem hlt.1]
    rfl
   obtain ⟨b, v, id, hop, g0, g1⟩ := op_f mn (rd ls (i : Int)) (by rw [hr]; exact u16 hx)
   have hD : ∃ r : St × Int, delF t mn id = some r ∧ (r.2 = 0 → ∃ L', J mn 24 r.1 L') := by
    rcases del_J (id := id) h g0 (by omega) with ⟨t', e1, e2, e3⟩ | ⟨r, e1, e2, e3⟩
    ·exact ⟨(t', 0), e1, fun _ => ⟨_, e2⟩⟩
    ·exact ⟨r, e1, fun e => absurd (e2.symm.trans e) (by decide)⟩
   have hI : ∃ r : St × Int, insA t mn (v, id) = some r ∧ (r.2 = 0 → ∃ L', J mn 24 r.1 L') := by
    rcases ins_J (k := (v, id)) h g0 (by show id < _; omega) with ⟨t', e1, e2, e3⟩ | ⟨r, e1, e2, e3⟩
    ·exact ⟨(t', 0), e1, fun _ => ⟨_, e2⟩⟩
    ·exact ⟨r, e1, fun e => absurd (e2.symm.trans e) (by decide)⟩
   obtain ⟨r, d1, d2⟩ := hD
   obtain ⟨r', i1, i2⟩ := hI
   have go : ∀ (t2 : St) (L2 : List K), J mn 24 t2 L2 → (∀ k, turnspitlaw09_Made.j1 (k + 1) mn ls (i : Int) true t.rt (t.ns.map turnspitref09_Insert.un) = turnspitlaw09_Made.l0 k mn ls ((i + 1 : Nat) : Int) t2.rt (t2.ns.map turnspitref09_Insert.un)) → ∃ t' L', J mn 24 t' L' ∧ Evt (fun k => turnspitlaw09_Made.l0 k mn ls (i : Int) t.rt (t.ns.map turnspitref09_Insert.un)) (t'.rt, t'.ns.map turnspitref09_Insert.un) := by
    intro t2 L2 hJ hk
    obtain ⟨t', L', h1, h2⟩ := ih (i + 1) t2 L2 hJ (by omega)
    refine ⟨t', L', h1, Evt.step (h := fun k => turnspitlaw09_Made.j1 k mn ls (i : Int) true t.rt (t.ns.map turnspitref09_Insert.un)) (Evt.step h2 hk) fun k => ?_⟩
    rw [turnspitlaw09_Made.l0, if_pos (by omega), show decide ((i : Int) < 60) = true from decide_eq_true (by omega)]
   have hj : ∀ k, turnspitlaw09_Made.j1 (k + 1) mn ls (i : Int) true t.rt (t.ns.map turnspitref09_Insert.un) = if b = true then (if r'.2 = 0 then turnspitlaw09_Made.l0 k mn ls ((i + 1 : Nat) : Int) r'.1.rt (r'.1.ns.map turnspitref09_Insert.un) else turnspitlaw09_Made.l0 k mn ls ((i + 1 : Nat) : Int) t.rt (t.ns.map turnspitref09_Insert.un)) else (if r.2 = 0 then turnspitlaw09_Made.l0 k mn ls ((i + 1 : Nat) : Int) r.1.rt (r.1.ns.map turnspitref09_Insert.un) else turnspitlaw09_Made.l0 k mn ls ((i + 1 : Nat) : Int) t.rt (t.ns.map turnspitref09_Insert.un)) := by
    intro k
    rw [turnspitlaw09_Made.j1, if_pos rfl, if_pos (by omega), if_pos (by omega), hop, Option.bind_some, rdel_f _ _ _ h.le, d1, Option.map_some, Option.bind_some]
    simp only
    rw [rins_f _ _ _ _ h.le, i1, Option.map_some, Option.bind_some, show wrap64 ((i : Int) + 1) = ((i + 1 : Nat) : Int) from by unfold wrap64; omega]
   cases b with
   | true =>
    by_cases h0 : r'.2 = 0
    ·obtain ⟨L2, hL2⟩ := i2 h0
     exact go _ _ hL2 fun k => by rw [hj, if_pos rfl, if_pos h0]
    ·exact go _ _ h fun k => by rw [hj, if_pos rfl, if_neg h0]
   | false =>
    by_cases h0 : r.2 = 0
    ·obtain ⟨L2, hL2⟩ := d2 h0
     exact go _ _ hL2 fun k => by rw [hj, if_neg (by simp), if_pos h0]
    ·exact go _ _ h fun k => by rw [hj, if_neg (by simp), if_neg h0]
  ·exact done i t L h hlt
theorem made_evt (mn : Int) (ls : List Int) (hw : ∀ x ∈ ls, (Lit.int .u16 x).wf = true) : ∃ t L, J mn 24 t L ∧ Evt (fun k => turnspitlaw09_Made.f k mn ls) (t.rt, t.ns.map turnspitref09_Insert.un) := by
 obtain ⟨t, L, h1, h2⟩ := made_loop mn ls hw 60 0 (newA 24).1 [] (new_J mn (n := 24) (by omega)) (by omega)
 refine ⟨t, L, h1, ?_⟩
 show Evt (fun k => (turnspitref09_New.f k 24).bind fun bt407 => turnspitlaw09_Made.l0 k mn ls 0 bt407.1 bt407.2.1) _
 exact Evt.bind (a := ((newA 24).1.rt, (newA 24).1.ns.map turnspitref09_Insert.un, 0)) (h := fun k bt407 => turnspitlaw09_Made.l0 k mn ls 0 bt407.1 bt407.2.1) new_evt h2
theorem first_f (t : St) (h : t.ns.length ≤ 64) : tree_First.f t.rt (t.ns.map turnspitref09_Insert.un) = some (((walkA t).getD 0 (0, 0)).1, ((walkA t).getD 0 (0, 0)).2, decide (0 < (walkA t).length)) := by
 unfold tree_First.f
 rw [if_pos (show tree_First.okN _ = true from decide_eq_true (by rw [List.length_map]; omega))]
 rw [show (t.ns.map turnspitref09_Insert.un).map tree_First.nd = t.ns from nd_un _]
theorem ids_J {mn : Int} {n : Nat} {t : St} {L : List K} (h : J mn n t L) {x : K} (hx : x ∈ L) : 0 ≤ x.2 ∧ x.2 < n := by
 obtain ⟨a, h1, h2⟩ := h.ex
 rw [h2] at hx
 obtain ⟨z, hz, rfl⟩ := List.mem_map.1 hx
 have := h1.whole.lay.lt z hz
 have hl := h.len
 show 0 ≤ (z : Int) ∧ (z : Int) < n
 omega
theorem none_J {mn : Int} {n : Nat} {t : St} (h : J mn n t []) : t.rt = -1 ∧ heightA t = 0 := by
 obtain ⟨a, h1, h2⟩ := h.ex
 have hi : a.ids = [] := by
  unfold keysOf at h2
  exact List.map_eq_nil_iff.1 h2.symm
 have ha : a = .E := by
  cases a with
  | E => rfl
  | B c l x r => exact absurd hi (by show l.ids ++ x :: r.ids ≠ []; simp)
 subst ha
 refine ⟨h1.whole.rt, ?_⟩
 unfold heightA
 rw [h1.ord]
 rfl
theorem firsts (mn : Int) (L0 : List K) (hL0 : L0.length ≤ 24) : ∀ (d i : Nat) (t : St), d + i = L0.length → J mn 24 t (L0.drop i) →
  Evt (fun k => turnspitlaw09_TreeFirsts.l0 k mn true (L0.map un) (i : Int) t.rt (t.ns.map turnspitref09_Insert.un)) true := by
 intro d
 induction d with
 | zero =>
  intro i t hi h
  rw [List.drop_eq_nil_of_le (by omega)] at h
  obtain ⟨e1, e2⟩ := none_J h
  refine Evt.step (Evt.now true) fun k => ?_
  rw [turnspitlaw09_TreeFirsts.l0, if_neg (by rw [List.length_map]; omega), first_f t h.le, Option.bind_some, if_pos rfl, h.walk]
  simp only
  rw [if_neg (by simp), if_pos e1, height_f t h.le, Option.bind_some, e2]
  simp
 | succ d ih =>
  intro i t hi h
  have hlt : i < L0.length := by omega
  have hdr : L0.drop i = L0[i] :: L0.drop (i + 1) := List.drop_eq_getElem_cons hlt
  obtain ⟨x, hx⟩ : ∃ x, x = L0[i] := ⟨_, rfl⟩
  rw [← hx] at hdr
  rw [hdr] at h
  obtain ⟨i0, i1⟩ := ids_J h (x := x) List.mem_cons_self
  have hw : walkA t = x :: L0.drop (i + 1) := h.walk
  rcases del_J (id := x.2) h i0 i1 with ⟨t', e1, e2, e3⟩ | ⟨r, e1, e2, e3⟩
  ·rw [del_cons, if_pos rfl] at e2
   refine Evt.step (ih (i + 1) t' (by omega) e2) fun k => ?_
   have hrd : rd_T27 (L0.map un) (i : Int) = un x := by
    unfold rd_T27
    rw [Int.toNat_natCast, List.getD_eq_getElem?_getD, List.getElem?_map, List.getElem?_eq_getElem hlt, hx]
    rfl
   rw [turnspitlaw09_TreeFirsts.l0, if_pos (by rw [List.length_map]; omega), first_f t h.le, Option.bind_some, hw]
   simp only [List.getD_cons_zero]
   rw [del_f _ _ _ h.le, e1, Option.map_some, Option.bind_some, hrd]
   rw [if_pos (by simp), if_pos (by omega), if_neg (by show ¬ (!(x.1 == x.1) || !(x.2 == x.2)) = true; simp), if_pos rfl]
   rw [show wrap64 ((i : Int) + 1) = ((i + 1 : Nat) : Int) from by unfold wrap64; omega]
  ·exact absurd rfl (e3 x List.mem_cons_self)
theorem tfirsts : turnspitlaw09_TreeFirsts.Pure := by
 intro a0 l1 _ _ _ hw
 obtain ⟨t, L, hJ, hE⟩ := made_evt a0 l1 hw
 have hf := firsts a0 L hJ.small L.length 0 t (by omega) (by rw [List.drop_zero]; exact hJ)
 obtain ⟨K0, h0⟩ := hE
 obtain ⟨K1, h1⟩ := hf
 refine ⟨K0 + K1, ?_⟩
 have g0 := h0 (K0 + K1) (by omega)
 have g1 := h1 (K0 + K1) (by omega)
 simp only at g0 g1
 unfold turnspitlaw09_TreeFirsts.f
 rw [show turnspitlaw09_awake.f = some true from rfl, Option.bind_some, if_pos rfl, g0, Option.bind_some]
 simp only
 rw [walk_f t hJ.le, hJ.walk, Option.bind_some]
 exact g1
end Go.Proofs.YtfapmcpmfeigbaaDoor.QTreeFirsts
namespace Go.Proofs.YtfapmcpmfeigbaaDoor.Pure
theorem TreeFirsts : QTreeFirsts.turnspitlaw09_TreeFirsts.Pure := QTreeFirsts.tfirsts
end Go.Proofs.YtfapmcpmfeigbaaDoor.Pure
end
section
namespace Go.Proofs.YtfapmcpmfeigbaaDoor.Tm
open Go.RowKit Go Go.Proofs Go.Proofs.YtfapmcpmfeigbaaDoor Go.Proofs.YtfapmcpmfeigbaaDoor.Tr
set_option linter.unusedVariables false
set_option linter.unusedSimpArgs false
theorem gE : Tryd.prog.globalNamed "turnspit/tree.empty" = some 0 := by kernel_rfl
theorem tE : (Tryd.prog.globals[0]?).map (·.type) = some 57 := by kernel_rfl
theorem u4 : Tryd.prog.cellsOf 4 = 1 := by kernel_rfl
theorem u25 : Tryd.prog.cellsOf 25 = 1 := by kernel_rfl
theorem u3 : Tryd.prog.cellsOf 3 = 1 := by kernel_rfl
theorem one_bool {H : Type} {enc : TypeId × Value → H} {W : World} {base : Nat} {sp : Nat → Bool} {held : Bool} {n : Nat} {cs : List Value} {i : Nat} {y : DataW H × List MemPlace} {b : Bool} (h : DataW.trod enc Tryd.prog W base sp held n 4 ((cs.drop i).take 1) = some y) (hy : y.1 = .lit (.bool b)) : cs[i]? = some (.bool b) := by
 obtain ⟨b', hc, rfl⟩ := DataW.trod_bool Tryd.underlying4 h
 simp only [DataW.lit.injEq, Lit.bool.injEq] at hy
 subst hy
 have := congrArg (·[0]?) hc
 simpa [List.getElem?_take, List.getElem?_drop] using this
theorem one_int {H : Type} {enc : TypeId × Value → H} {W : World} {base : Nat} {sp : Nat → Bool} {held : Bool} {n : Nat} {cs : List Value} {i : Nat} {t : TypeId} {k : IntKind} (ht : Tryd.prog.underlying t = some (.int k)) {y : DataW H × List MemPlace} {z : Int} (h : DataW.trod enc Tryd.prog W base sp held n t ((cs.drop i).take 1) = some y) (hy : y.1 = .lit (.int k z)) : cs[i]? = some (.int k z) := by
 obtain ⟨z', hc, rfl, _⟩ := DataW.trod_int ht h
 simp only [DataW.lit.injEq, Lit.int.injEq, true_and] at hy
 subst hy
 have := congrArg (·[0]?) hc
 simpa [List.getElem?_take, List.getElem?_drop] using this
set_option maxRecDepth 100000 in
/-- what the row's condition gives -/
theorem Emp_of_laid {W : World} (h : laidMetH Tryd.prog [("turnspit/tree.empty", Rows.laid_turnspit_tree_empty)] W) : Emp W := by
 rw [MakeChecks.laidMetH_plain _ _ _ (by kernel_rfl)] at h
 obtain ⟨ps, ⟨g', t', cs, fuel, p, q, hg', ht', hvar, hd, _, _⟩, _⟩ := h
 obtain rfl := Option.some.inj (gE.symm.trans hg')
 obtain rfl := Option.some.inj (tE.symm.trans ht')
 obtain ⟨xs, n, _, hx, hl, hlen, hf⟩ := DataW.trod_struct Tryd.underlying57 hd
 have hc := fun i => World.var?_cell gE hvar i
 match xs, hlen with
 | [y0, y1, y2, y3, y4, y5], _ =>
  have hx1 := congrArg Prod.fst hx
  simp only [Rows.laid_turnspit_tree_empty, List.map_cons, List.map_nil, DataW.agg.injEq, List.cons.injEq, and_true] at hx1
  obtain ⟨e0, e1, e2, e3, e4, e5⟩ := hx1
  have f0 := hf 0 _ rfl
  have f1 := hf 1 _ rfl
  have f2 := hf 2 _ rfl
  have f3 := hf 3 _ rfl
  have f4 := hf 4 _ rfl
  have f5 := hf 5 _ rfl
  simp only [u4, u25, u3, List.getElem_cons_zero, List.getElem_cons_succ, List.getElem?_cons_zero, List.getElem?_cons_succ] at f0 f1 f2 f3 f4 f5
  have g0 := one_bool f0 e0.symm
  have g1 := one_bool f1 e1.symm
  have g2 := one_int Tryd.underlying25 f2 e2.symm
  have g3 := one_int Tryd.underlying3 f3 e3.symm
  have g4 := one_int Tryd.underlying3 f4 e4.symm
  have g5 := one_int Tryd.underlying3 f5 e5.symm
  have c0 := (hc 0).trans ((Array.getElem?_toList).symm.trans g0)
  exact ⟨World.block_lt_of_cell? W _ c0, c0, (hc 1).trans ((Array.getElem?_toList).symm.trans g1), (hc 2).trans ((Array.getElem?_toList).symm.trans g2), (hc 3).trans ((Array.getElem?_toList).symm.trans g3), (hc 4).trans ((Array.getElem?_toList).symm.trans g4), (hc 5).trans ((Array.getElem?_toList).symm.trans g5)⟩
end Go.Proofs.YtfapmcpmfeigbaaDoor.Tm
end
section
namespace Go.Proofs.YtfapmcpmfeigbaaDoorW.PrintWords
open Go.ChangeShapes Go.WideShapes
theorem sized_ints {H : Type} {enc : TypeId × Value → H} {P : Program} {W : World} {base : Nat} {spare : Nat → Bool} {held : Bool} {t e : TypeId} {k : IntKind} {a : Option Addr} {len cap : Nat} {d : DataW H} {ps : List MemPlace} {ts : List TypeId} {ds : List (DataW H)} {j : Nat}
  (hsz : (DataW.weightsEach P ts ds).all (· ≤ reachBytes) = true) (ht : ts[j]? = some t) (hd : ds[j]? = some d) (hu : P.underlying t = some (.slice e)) (he : P.underlying e = some (.int k)) (hc : P.cellsOf e = 1) {B : Nat} (hB : P.bytesOf e = B)
  (h : DataW.Trod enc P W base spare held t (.slice a len cap) d ps) : len * B ≤ 140737488351232 := by
 obtain ⟨fuel, hf⟩ := h
 rcases open_ints hu he hc hf with ⟨hcs, _⟩ | ⟨x, l, c, zs, hcs, _, hl, _, hz, hx, _, _⟩
 ·simp [Value.cells] at hcs
  obtain ⟨rfl, rfl, rfl⟩ := hcs
  simp
 ·simp [Value.cells] at hcs
  obtain ⟨rfl, rfl, rfl⟩ := hcs
  obtain ⟨hx, _⟩ := Prod.mk.inj hx
  subst hx
  have z := sized_slice hsz ht hd hu
  rw [hB] at z
  have hl2 : len ≤ zs.length := by
   rw [hz]
   split
   ·exact hl
   ·exact Nat.le_refl _
  have h1 : (lits (H := H) k (zs.take len)).length + (lits (H := H) k (zs.drop len)).length = zs.length := by
   simp [lits]
   omega
  rw [h1] at z
  exact Nat.le_trans (Nat.mul_le_mul_right _ hl2) z
end Go.Proofs.YtfapmcpmfeigbaaDoorW.PrintWords
end
