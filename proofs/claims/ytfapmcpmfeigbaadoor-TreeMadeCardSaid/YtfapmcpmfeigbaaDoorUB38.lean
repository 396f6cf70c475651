/- Parts of the proof, joined: PureTreeMade, TmL, WSized. -/
import Derived.Test.YtfapmcpmfeigbaaDoorUB32
import Derived.Test.YtfapmcpmfeigbaaDoorUB33
import Derived.Test.YtfapmcpmfeigbaaDoorUB34
import Derived.Test.YtfapmcpmfeigbaaDoorUB35
import Derived.Test.YtfapmcpmfeigbaaDoorUB36
import Derived.Test.YtfapmcpmfeigbaaDoorUB37
import Derived.Test.YtfapmcpmfeigbaaDoorUB10
import Derived.Test.YtfapmcpmfeigbaaDoorRows
import Derived.LaidMore
import Derived.Lib.LaidTab
import Derived.ChangeArms
import Derived.ChangeSame
import Derived.FnData
import Derived.MakeChecks
import Derived.SizedLaws
import Derived.ChangeSlices
section
namespace Go.Proofs.YtfapmcpmfeigbaaDoor.QTreeMade
open Go.RowKit Go Go.Proofs Go.Proofs.YtfapmcpmfeigbaaDoor Go.Proofs.YtfapmcpmfeigbaaDoor.Tr Go.Proofs.YtfapmcpmfeigbaaDoor.Tk Go.Proofs.YtfapmcpmfeigbaaDoor.Tm Go.Proofs.YtfapmcpmfeigbaaDoorW.PrintWords Go.Proofs.YtfapmcpmfeigbaaDoorW.PrintLast
set_option linter.unusedVariables false
def un : K → S27 := tree_Walk.un2
theorem same9_step {l : List S57} {a : Int} (hl : l.length ≤ 1000) : ∀ (d i : Nat), d + i = l.length → Evt (fun k => turnspitref09_Same.l0 k (i : Int) a l a l) true
 | 0, i, hi => Evt.step (Evt.now true) fun k => by rw [turnspitref09_Same.l0, if_neg (by omega)]
 | d + 1, i, hi => by
  refine Evt.step (same9_step (a := a) hl d (i + 1) (by omega)) fun k => ?_
  rw [turnspitref09_Same.l0, if_pos (by omega), if_pos (by omega), if_pos (by omega), if_neg (by simp), show wrap64 ((i : Int) + 1) = ((i + 1 : Nat) : Int) from by unfold wrap64; omega]
theorem rsame9 {l : List S57} {a : Int} (hl : l.length ≤ 1000) : Evt (fun k => turnspitref09_Same.f k a l a l) true := by
 refine Evt.step (same9_step (a := a) hl l.length 0 (by omega)) fun k => ?_
 unfold turnspitref09_Same.f
 rw [if_pos rfl, turnspitref09_Same.j0, if_neg (by simp)]
 rfl
theorem same8_step {l : List S27} (hl : l.length ≤ 1000) : ∀ (d i : Nat), d + i = l.length → Evt (fun k => turnspitref08_Same.l0 k l l (i : Int)) true
 | 0, i, hi => Evt.step (Evt.now true) fun k => by rw [turnspitref08_Same.l0, if_neg (by omega)]
 | d + 1, i, hi => by
  refine Evt.step (same8_step hl d (i + 1) (by omega)) fun k => ?_
  rw [turnspitref08_Same.l0, if_pos (by omega), if_pos (by omega), if_pos (by omega), if_neg (by simp), show wrap64 ((i : Int) + 1) = ((i + 1 : Nat) : Int) from by unfold wrap64; omega]
theorem rsame8 {l : List S27} (hl : l.length ≤ 1000) : Evt (fun k => turnspitref08_Same.f k l l) true := by
 obtain ⟨K, hK⟩ := same8_step hl l.length 0 (by omega)
 refine ⟨K, fun k hk => ?_⟩
 show turnspitref08_Same.f k l l = some true
 unfold turnspitref08_Same.f
 rw [if_pos rfl]
 exact hK k hk
theorem ins_tot (t : St) (mn : Int) (k : K) : ∃ r, insA t mn k = some r ∧ r.1.ns.length ≤ 64 := by
 by_cases hr : rightA t mn = false
 ·exact ⟨(⟨[], 0⟩, 4), by unfold insA; rw [if_pos hr], Nat.zero_le _⟩
 ·obtain ⟨a, ha, _⟩ := right_RT (by simpa using hr)
  obtain ⟨r, h1, h2⟩ := ins_any mn k ha
  refine ⟨r, h1, ?_⟩
  by_cases h0 : r.2 = 0
  ·obtain ⟨a', _, h4⟩ := h2 h0
   rw [h4]
   exact ha.len
  ·unfold insA at h1
   rw [if_neg hr] at h1
   split at h1
   ·rw [← Option.some.inj h1]; exact Nat.zero_le _
   ·exfalso
    apply h0
    split at h1
    ·cases h1
    ·split at h1
     ·cases h1
     ·rw [← Option.some.inj h1]
theorem del_tot (t : St) (mn : Int) (i : Int) : ∃ r, delF t mn i = some r ∧ r.1.ns.length ≤ 64 := by
 unfold delF
 by_cases hr : rightA t mn = false
 ·exact ⟨(⟨[], 0⟩, 4), by rw [if_pos hr], Nat.zero_le _⟩
 ·rw [if_neg hr]
  by_cases hi : i < 0 ∨ (t.ns.length : Int) ≤ i
  ·exact ⟨(⟨[], 0⟩, 1), by rw [if_pos hi], Nat.zero_le _⟩
  ·rw [if_neg hi]
   cases hn : (gn t i.toNat).inn with
   | false => exact ⟨(⟨[], 0⟩, 8), by rw [if_pos rfl], Nat.zero_le _⟩
   | true =>
    obtain ⟨a, ha, _⟩ := right_RT (by simpa using hr)
    have hm : i.toNat ∈ a.ids := (Whole.mem ha.whole i.toNat).2 hn
    obtain ⟨t', a', lf, rg, h1, _, _, _, h5, _⟩ := del_ok ha hm
    refine ⟨(t', 0), by rw [if_neg (by simp), h1], ?_⟩
    rw [h5]
    exact ha.len
theorem nd_un (l : List Nd) : (l.map tree_Insert.un).map tree_Insert.nd = l := by
 rw [List.map_map]; exact List.map_id l
theorem ins_f (t : St) (mn v i : Int) (h : t.ns.length ≤ 64) : tree_Insert.f t.rt (t.ns.map tree_Insert.un) mn v i = (insA t mn (v, i)).map (fun r => (r.1.rt, r.1.ns.map tree_Insert.un, r.2)) := by
 unfold tree_Insert.f
 rw [if_pos (show tree_Insert.okN _ = true from decide_eq_true (by rw [List.length_map]; omega)), nd_un]
theorem del_f (t : St) (mn i : Int) (h : t.ns.length ≤ 64) : tree_Delete.f t.rt (t.ns.map tree_Insert.un) mn i = (delF t mn i).map (fun r => (r.1.rt, r.1.ns.map tree_Insert.un, r.2)) := by
 unfold tree_Delete.f
 rw [if_pos (show tree_Delete.okN _ = true from decide_eq_true (by rw [List.length_map]; omega))]
 rw [show (t.ns.map tree_Insert.un).map tree_Delete.nd = t.ns from nd_un _]
 rfl
theorem walk_f (t : St) (h : t.ns.length ≤ 64) : tree_Walk.f t.rt (t.ns.map tree_Insert.un) = some ((walkA t).map un) := by
 unfold tree_Walk.f
 rw [if_pos (show tree_Walk.okN _ = true from decide_eq_true (by rw [List.length_map]; omega))]
 rw [show (t.ns.map tree_Insert.un).map tree_Walk.nd = t.ns from nd_un _]
 rfl
theorem right_f (t : St) (mn : Int) (h : t.ns.length ≤ 64) : tree_Right.f t.rt (t.ns.map tree_Insert.un) mn = some (rightA t mn) := by
 unfold tree_Right.f
 rw [if_pos (show tree_Right.okN _ = true from decide_eq_true (by rw [List.length_map]; omega))]
 rw [show (t.ns.map tree_Insert.un).map tree_Right.nd = t.ns from nd_un _]
theorem height_f (t : St) (h : t.ns.length ≤ 64) : tree_Height.f t.rt (t.ns.map tree_Insert.un) = some (heightA t) := by
 unfold tree_Height.f
 rw [if_pos (show tree_Height.okN _ = true from decide_eq_true (by rw [List.length_map]; omega))]
 rw [show (t.ns.map tree_Insert.un).map tree_Height.nd = t.ns from nd_un _]
theorem rins_f (t : St) (mn v i : Int) (h : t.ns.length ≤ 64) : turnspitref09_Insert.f t.rt (t.ns.map tree_Insert.un) mn v i = (insA t mn (v, i)).map (fun r => (r.1.rt, r.1.ns.map tree_Insert.un, r.2)) := ins_f t mn v i h
theorem rdel_f (t : St) (mn i : Int) (h : t.ns.length ≤ 64) : turnspitref09_Delete.f t.rt (t.ns.map tree_Insert.un) mn i = (delF t mn i).map (fun r => (r.1.rt, r.1.ns.map tree_Insert.un, r.2)) := del_f t mn i h
theorem op_f (mn x : Int) (hx : 0 ≤ x ∧ x ≤ 65535) : ∃ b v id, turnspitlaw09_Op.f mn x 24 = some (b, v, id) ∧ 0 ≤ id ∧ id < 24 := by
 refine ⟨_, _, _, by unfold turnspitlaw09_Op.f; rw [if_neg (by omega)], ?_⟩
 have e : wrap64 (Int.tdiv (wrap64 x) 4) = x / 4 := by
  rw [show wrap64 x = x from by unfold wrap64; omega, Int.tdiv_eq_ediv_of_nonneg hx.1]
  unfold wrap64; omega
 rw [e, Int.tmod_eq_emod_of_nonneg (by omega)]
 omega
theorem new_evt : Evt (fun k => turnspitref09_New.f k 24) ((newA 24).1.rt, (newA 24).1.ns.map tree_Insert.un, 0) := by
 refine ⟨30, fun k hk => ?_⟩
 obtain ⟨d, rfl⟩ : ∃ d, k = 30 + d := ⟨k - 30, by omega⟩
 clear hk
 show turnspitref09_New.f (30 + d) 24 = _
 induction d with
 | zero => kernel_rfl
 | succ d ih => exact turnspitref09_New.mono 24 (30 + d) _ ih
theorem u16 {x : Int} (hx : (Lit.int .u16 x).wf = true) : 0 ≤ x ∧ x ≤ 65535 := by
 simp [Lit.wf, IntKind.min, IntKind.max, IntKind.signed, IntKind.bits] at hx
 omega
theorem made_loop (mn : Int) (ls : List Int) (hw : ∀ x ∈ ls, (Lit.int .u16 x).wf = true) : ∀ (d i : Nat) (t : St) (L : List K), J mn 24 t L → 60 ≤ d + i →
  ∃ t' L', J mn 24 t' L' ∧ Evt (fun k => turnspitlaw09_Made.l0 k mn ls (i : Int) t.rt (t.ns.map tree_Insert.un)) (t'.rt, t'.ns.map tree_Insert.un) := by
 have done : ∀ (i : Nat) (t : St) (L : List K), J mn 24 t L → ¬ (i < ls.length ∧ i < 60) → ∃ t' L', J mn 24 t' L' ∧ Evt (fun k => turnspitlaw09_Made.l0 k mn ls (i : Int) t.rt (t.ns.map tree_Insert.un)) (t'.rt, t'.ns.map tree_Insert.un) := by
  intro i t L hJ hlt
  refine ⟨t, L, hJ, Evt.step (h := fun k => turnspitlaw09_Made.j1 k mn ls (i : Int) false t.rt (t.ns.map tree_Insert.un)) ?_ fun k => ?_⟩
  ·refine Evt.step (Evt.now _) fun k => ?_
   rw [turnspitlaw09_Made.j1, if_neg (by simp)]
  ·rw [turnspitlaw09_Made.l0]
   split
   ·rw [show decide ((i : Int) < 60) = false from decide_eq_false (by omega)]
   ·rfl
 intro d
 induction d with
 | zero => exact fun i t L h hi => done i t L h (by omega)
 | succ d ih =>
  intro i t L h hi
  by_cases hlt : i < ls.length ∧ i < 60
  ·have hx := hw (ls[i]) (List.getElem_mem hlt.1)
   have hr : rd ls (i : Int) = ls[i] := by
    unfold rd
    rw [Int.toNat_natCast, List.getD_eq_getElem?_getD, List.getElem?_eq_getElem hlt.1]
    rfl
   obtain ⟨b, v, id, hop, g0, g1⟩ := op_f mn (rd ls (i : Int)) (by rw [hr]; exact u16 hx)
   have hD : ∃ r : St × Int, delF t mn id = some r ∧ (r.2 = 0 → ∃ L', J mn 24 r.1 L') := by
    rcases del_J (id := id) h g0 (by omega) with ⟨t', e1, e2, e3⟩ | ⟨r, e1, e2, e3⟩
    ·exact ⟨(t', 0), e1, fun _ => ⟨_, e2⟩⟩
    ·exact ⟨r, e1, fun e => absurd (e2.symm.trans e) (by decide)⟩
   have hI : ∃ r : St × Int, insA t mn (v, id) = some r ∧ (r.2 = 0 → ∃ L', J mn 24 r.1 L') := by
    rcases ins_J (k := (v, id)) h g0 (by show id < _; omega) with ⟨t', e1, e2, e3⟩ | ⟨r, e1, e2, e3⟩
    ·exact ⟨(t', 0), e1, fun _ => ⟨_, e2⟩⟩
    ·exact ⟨r, e1, fun e => absurd (e2.symm.trans e) (by decide)⟩
   obtain ⟨r, d1, d2⟩ := hD
   obtain ⟨r', i1, i2⟩ := hI
   have go : ∀ (t2 : St) (L2 : List K), J mn 24 t2 L2 → (∀ k, turnspitlaw09_Made.j1 (k + 1) mn ls (i : Int) true t.rt (t.ns.map tree_Insert.un) = turnspitlaw09_Made.l0 k mn ls ((i + 1 : Nat) : Int) t2.rt (t2.ns.map tree_Insert.un)) → ∃ t' L', J mn 24 t' L' ∧ Evt (fun k => turnspitlaw09_Made.l0 k mn ls (i : Int) t.rt (t.ns.map tree_Insert.un)) (t'.rt, t'.ns.map tree_Insert.un) := by
    intro t2 L2 hJ hk
    obtain ⟨t', L', h1, h2⟩ := ih (i + 1) t2 L2 hJ (by omega)
    refine ⟨t', L', h1, Evt.step (h := fun k => turnspitlaw09_Made.j1 k mn ls (i : Int) true t.rt (t.ns.map tree_Insert.un)) (Evt.step h2 hk) fun k => ?_⟩
    rw [turnspitlaw09_Made.l0, if_pos (by omega), show decide ((i : Int) < 60) = true from decide_eq_true (by omega)]
   have hj : ∀ k, turnspitlaw09_Made.j1 (k + 1) mn ls (i : Int) true t.rt (t.ns.map tree_Insert.un) = if b = true then (if r'.2 = 0 then turnspitlaw09_Made.l0 k mn ls ((i + 1 : Nat) : Int) r'.1.rt (r'.1.ns.map tree_Insert.un) else turnspitlaw09_Made.l0 k mn ls ((i + 1 : Nat) : Int) t.rt (t.ns.map tree_Insert.un)) else (if r.2 = 0 then turnspitlaw09_Made.l0 k mn ls ((i + 1 : Nat) : Int) r.1.rt (r.1.ns.map tree_Insert.un) else turnspitlaw09_Made.l0 k mn ls ((i + 1 : Nat) : Int) t.rt (t.ns.map tree_Insert.un)) := by
    intro k
    rw [turnspitlaw09_Made.j1, if_pos rfl, if_pos (by omega), if_pos (by omega), hop, Option.bind_some, rdel_f _ _ _ h.le, d1, Option.map_some, Option.bind_some]
    simp only
    rw [rins_f _ _ _ _ h.le, i1, Option.map_some, Option.bind_some, show wrap64 ((i : Int) + 1) = ((i + 1 : Nat) : Int) from by unfold wrap64; omega]
   cases b with
   | true =>
    by_cases h0 : r'.2 = 0
    ·obtain ⟨L2, hL2⟩ := i2 h0
     exact go _ _ hL2 fun k => by rw [hj, if_pos rfl, if_pos h0]
    ·exact go _ _ h fun k => by rw [hj, if_pos rfl, if_neg h0]
   | false =>
    by_cases h0 : r.2 = 0
    ·obtain ⟨L2, hL2⟩ := d2 h0
     exact go _ _ hL2 fun k => by rw [hj, if_neg (by simp), if_pos h0]
    ·exact go _ _ h fun k => by rw [hj, if_neg (by simp), if_neg h0]
  ·exact done i t L h hlt
theorem made_evt (mn : Int) (ls : List Int) (hw : ∀ x ∈ ls, (Lit.int .u16 x).wf = true) : ∃ t L, J mn 24 t L ∧ Evt (fun k => turnspitlaw09_Made.f k mn ls) (t.rt, t.ns.map tree_Insert.un) := by
 obtain ⟨t, L, h1, h2⟩ := made_loop mn ls hw 60 0 (newA 24).1 [] (new_J mn (n := 24) (by omega)) (by omega)
 refine ⟨t, L, h1, ?_⟩
 show Evt (fun k => (turnspitref09_New.f k 24).bind fun bt407 => turnspitlaw09_Made.l0 k mn ls 0 bt407.1 bt407.2.1) _
 exact Evt.bind (a := ((newA 24).1.rt, (newA 24).1.ns.map tree_Insert.un, 0)) (h := fun k bt407 => turnspitlaw09_Made.l0 k mn ls 0 bt407.1 bt407.2.1) new_evt h2
theorem tmade : turnspitlaw09_TreeMade.Pure := by
 intro a0 l1 a2 _ _ _ hw hw2
 obtain ⟨t, L, hJ, K0, h0⟩ := made_evt a0 l1 hw
 obtain ⟨b, v, id, hop, _, _⟩ := op_f a0 a2 (u16 hw2)
 obtain ⟨r, e1, r64⟩ := ins_tot t a0 (v, id)
 obtain ⟨d, e2, d64⟩ := del_tot t a0 id
 have i1 := ins_f t a0 v id hJ.le
 rw [e1, Option.map_some] at i1
 have i2 : turnspitref09_Insert.f t.rt (t.ns.map tree_Insert.un) a0 v id = some (r.1.rt, r.1.ns.map tree_Insert.un, r.2) := i1
 have d1 := del_f t a0 id hJ.le
 rw [e2, Option.map_some] at d1
 have d2 : turnspitref09_Delete.f t.rt (t.ns.map tree_Insert.un) a0 id = some (d.1.rt, d.1.ns.map tree_Insert.un, d.2) := d1
 have w1 := walk_f t hJ.le
 have w2 : turnspitref09_Walk.f t.rt (t.ns.map tree_Insert.un) = some ((walkA t).map un) := w1
 have y1 := height_f t hJ.le
 have y2 : turnspitref09_Height.f t.rt (t.ns.map tree_Insert.un) = some (heightA t) := y1
 have s3 : ((walkA t).map un).length ≤ 1000 := by rw [List.length_map, hJ.walk]; have := hJ.small; omega
 obtain ⟨K1, h1⟩ := rsame9 (l := r.1.ns.map tree_Insert.un) (a := r.1.rt) (by rw [List.length_map]; omega)
 obtain ⟨K2, h2⟩ := rsame9 (l := d.1.ns.map tree_Insert.un) (a := d.1.rt) (by rw [List.length_map]; omega)
 obtain ⟨K3, h3⟩ := rsame8 s3
 refine ⟨K0 + K1 + K2 + K3, ?_⟩
 have g0 := h0 (K0 + K1 + K2 + K3) (by omega)
 have g1 := h1 (K0 + K1 + K2 + K3) (by omega)
 have g2 := h2 (K0 + K1 + K2 + K3) (by omega)
 have g3 := h3 (K0 + K1 + K2 + K3) (by omega)
 simp only at g0 g1 g2 g3
 unfold turnspitlaw09_TreeMade.f
 rw [g0, Option.bind_some, hop, Option.bind_some]
 simp only
 rw [i1, Option.bind_some, i2, Option.bind_some, d1, Option.bind_some, d2, Option.bind_some, show turnspitlaw09_awake.f = some true from rfl, Option.bind_some, if_pos rfl]
 simp only
 rw [g1, Option.bind_some, if_pos rfl, if_pos trivial, g2, Option.bind_some, if_pos rfl, if_pos trivial, right_f t a0 hJ.le, hJ.right, Option.bind_some, if_pos rfl, w1, Option.bind_some, w2, Option.bind_some, g3, Option.bind_some, if_pos rfl, y1, Option.bind_some, y2, Option.bind_some]
 simp
end Go.Proofs.YtfapmcpmfeigbaaDoor.QTreeMade
namespace Go.Proofs.YtfapmcpmfeigbaaDoor.Pure
theorem TreeMade : QTreeMade.turnspitlaw09_TreeMade.Pure := QTreeMade.tmade
end Go.Proofs.YtfapmcpmfeigbaaDoor.Pure
end
section
namespace Go.Proofs.YtfapmcpmfeigbaaDoor.Tm
open Go.RowKit Go Go.Proofs Go.Proofs.YtfapmcpmfeigbaaDoor Go.Proofs.YtfapmcpmfeigbaaDoor.Tr
set_option linter.unusedVariables false
set_option linter.unusedSimpArgs false
theorem gE : Tryd.prog.globalNamed "turnspit/tree.empty" = some 0 := by kernel_rfl
theorem tE : (Tryd.prog.globals[0]?).map (·.type) = some 57 := by kernel_rfl
theorem u4 : Tryd.prog.cellsOf 4 = 1 := by kernel_rfl
theorem u25 : Tryd.prog.cellsOf 25 = 1 := by kernel_rfl
theorem u3 : Tryd.prog.cellsOf 3 = 1 := by kernel_rfl
theorem one_bool {H : Type} {enc : TypeId × Value → H} {W : World} {base : Nat} {sp : Nat → Bool} {held : Bool} {n : Nat} {cs : List Value} {i : Nat} {y : DataW H × List MemPlace} {b : Bool} (h : DataW.trod enc Tryd.prog W base sp held n 4 ((cs.drop i).take 1) = some y) (hy : y.1 = .lit (.bool b)) : cs[i]? = some (.bool b) := by
 obtain ⟨b', hc, rfl⟩ := DataW.trod_bool Tryd.underlying4 h
 simp only [DataW.lit.injEq, Lit.bool.injEq] at hy
 subst hy
 have := congrArg (·[0]?) hc
 simpa [List.getElem?_take, List.getElem?_drop] using this
theorem one_int {H : Type} {enc : TypeId × Value → H} {W : World} {base : Nat} {sp : Nat → Bool} {held : Bool} {n : Nat} {cs : List Value} {i : Nat} {t : TypeId} {k : IntKind} (ht : Tryd.prog.underlying t = some (.int k)) {y : DataW H × List MemPlace} {z : Int} (h : DataW.trod enc Tryd.prog W base sp held n t ((cs.drop i).take 1) = some y) (hy : y.1 = .lit (.int k z)) : cs[i]? = some (.int k z) := by
 obtain ⟨z', hc, rfl, _⟩ := DataW.trod_int ht h
 simp only [DataW.lit.injEq, Lit.int.injEq, true_and] at hy
 subst hy
 have := congrArg (·[0]?) hc
 simpa [List.getElem?_take, List.getElem?_drop] using this
set_option maxRecDepth 100000 in
/-- what the row's condition gives -/
theorem Emp_of_laid {W : World} (h : laidMetH Tryd.prog [("turnspit/tree.empty", Rows.laid_turnspit_tree_empty)] W) : Emp W := by
 rw [MakeChecks.laidMetH_plain _ _ _ (by kernel_rfl)] at h
 obtain ⟨ps, ⟨g', t', cs, fuel, p, q, hg', ht', hvar, hd, _, _⟩, _⟩ := h
 obtain rfl := Option.some.inj (gE.symm.trans hg')
 obtain rfl := Option.some.inj (tE.symm.trans ht')
 obtain ⟨xs, n, _, hx, hl, hlen, hf⟩ := DataW.trod_struct Tryd.underlying57 hd
 have hc := fun i => World.var?_cell gE hvar i
 match xs, hlen with
 | [y0, y1, y2, y3, y4, y5], _ =>
  have hx1 := congrArg Prod.fst hx
  simp only [Rows.laid_turnspit_tree_empty, List.map_cons, List.map_nil, DataW.agg.injEq, List.cons.injEq, and_true] at hx1
  obtain ⟨e0, e1, e2, e3, e4, e5⟩ := hx1
  have f0 := hf 0 _ rfl
  have f1 := hf 1 _ rfl
  have f2 := hf 2 _ rfl
  have f3 := hf 3 _ rfl
  have f4 := hf 4 _ rfl
  have f5 := hf 5 _ rfl
  simp only [u4, u25, u3, List.getElem_cons_zero, List.getElem_cons_succ, List.getElem?_cons_zero, List.getElem?_cons_succ] at f0 f1 f2 f3 f4 f5
  have g0 := one_bool f0 e0.symm
  have g1 := one_bool f1 e1.symm
  have g2 := one_int Tryd.underlying25 f2 e2.symm
  have g3 := one_int Tryd.underlying3 f3 e3.symm
  have g4 := one_int Tryd.underlying3 f4 e4.symm
  have g5 := one_int Tryd.underlying3 f5 e5.symm
  have c0 := (hc 0).trans ((Array.getElem?_toList).symm.trans g0)
  exact ⟨World.block_lt_of_cell? W _ c0, c0, (hc 1).trans ((Array.getElem?_toList).symm.trans g1), (hc 2).trans ((Array.getElem?_toList).symm.trans g2), (hc 3).trans ((Array.getElem?_toList).symm.trans g3), (hc 4).trans ((Array.getElem?_toList).symm.trans g4), (hc 5).trans ((Array.getElem?_toList).symm.trans g5)⟩
end Go.Proofs.YtfapmcpmfeigbaaDoor.Tm
end
section
namespace Go.Proofs.YtfapmcpmfeigbaaDoorW.PrintWords
open Go.ChangeShapes Go.WideShapes
theorem sized_ints {H : Type} {enc : TypeId × Value → H} {P : Program} {W : World} {base : Nat} {spare : Nat → Bool} {held : Bool} {t e : TypeId} {k : IntKind} {a : Option Addr} {len cap : Nat} {d : DataW H} {ps : List MemPlace} {ts : List TypeId} {ds : List (DataW H)} {j : Nat}
  (hsz : (DataW.weightsEach P ts ds).all (· ≤ reachBytes) = true) (ht : ts[j]? = some t) (hd : ds[j]? = some d) (hu : P.underlying t = some (.slice e)) (he : P.underlying e = some (.int k)) (hc : P.cellsOf e = 1) {B : Nat} (hB : P.bytesOf e = B)
  (h : DataW.Trod enc P W base spare held t (.slice a len cap) d ps) : len * B ≤ 140737488351232 := by
 obtain ⟨fuel, hf⟩ := h
 rcases open_ints hu he hc hf with ⟨hcs, _⟩ | ⟨x, l, c, zs, hcs, _, hl, _, hz, hx, _, _⟩
 ·simp [Value.cells] at hcs
  obtain ⟨rfl, rfl, rfl⟩ := hcs
  simp
 ·simp [Value.cells] at hcs
  obtain ⟨rfl, rfl, rfl⟩ := hcs
  obtain ⟨hx, _⟩ := Prod.mk.inj hx
  subst hx
  have z := sized_slice hsz ht hd hu
  rw [hB] at z
  have hl2 : len ≤ zs.length := by
   rw [hz]
   split
   ·exact hl
   ·exact Nat.le_refl _
  have h1 : (lits (H := H) k (zs.take len)).length + (lits (H := H) k (zs.drop len)).length = zs.length := by
   simp [lits]
   omega
  rw [h1] at z
  exact Nat.le_trans (Nat.mul_le_mul_right _ hl2) z
end Go.Proofs.YtfapmcpmfeigbaaDoorW.PrintWords
end
