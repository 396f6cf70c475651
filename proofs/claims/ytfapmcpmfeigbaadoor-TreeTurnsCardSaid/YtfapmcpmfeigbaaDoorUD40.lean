/- Parts of the proof, joined: PureTreeTurns, TmL, WSized. -/
import Derived.Test.YtfapmcpmfeigbaaDoorUD32
import Derived.Test.YtfapmcpmfeigbaaDoorUD33
import Derived.Test.YtfapmcpmfeigbaaDoorUD34
import Derived.Test.YtfapmcpmfeigbaaDoorUD35
import Derived.Test.YtfapmcpmfeigbaaDoorUD36
import Derived.Test.YtfapmcpmfeigbaaDoorUD37
import Derived.Test.YtfapmcpmfeigbaaDoorUD39
import Derived.Test.YtfapmcpmfeigbaaDoorUD10
import Derived.Test.YtfapmcpmfeigbaaDoorRows
import Derived.LaidMore
import Derived.Lib.LaidTab
import Derived.ChangeArms
import Derived.ChangeSame
import Derived.FnData
import Derived.MakeChecks
import Derived.SizedLaws
import Derived.ChangeSlices
section
namespace Go.Proofs.YtfapmcpmfeigbaaDoor.QTreeTurns
open Go.RowKit Go Go.Proofs Go.Proofs.YtfapmcpmfeigbaaDoor Go.Proofs.YtfapmcpmfeigbaaDoor.Tr Go.Proofs.YtfapmcpmfeigbaaDoor.Tk Go.Proofs.YtfapmcpmfeigbaaDoor.Tm Go.Proofs.YtfapmcpmfeigbaaDoorW.PrintWords Go.Proofs.YtfapmcpmfeigbaaDoorW.PrintLast
set_option linter.unusedVariables false
theorem same9_step {l : List S57} {a : Int} (hl : l.length ≤ 1000) : ∀ (d i : Nat), d + i = l.length → Evt (fun k => turnspitref09_Same.l0 k (i : Int) a l a l) true
 | 0, i, hi => Evt.step (Evt.now true) fun k => by rw [turnspitref09_Same.l0, if_neg (by omega)]
 | d + 1, i, hi => by
  refine Evt.step (same9_step (a := a) hl d (i + 1) (by omega)) fun k => ?_
  rw [turnspitref09_Same.l0, if_pos (by omega), if_pos (by omega), if_pos (by omega), if_neg (by simp), show wrap64 ((i : Int) + 1) = ((i + 1 : Nat) : Int) from by unfold wrap64; omega]
theorem rsame9 {l : List S57} {a : Int} (hl : l.length ≤ 1000) : Evt (fun k => turnspitref09_Same.f k a l a l) true := by
 refine Evt.step (same9_step (a := a) hl l.length 0 (by omega)) fun k => ?_
 unfold turnspitref09_Same.f
 rw [if_pos rfl, turnspitref09_Same.j0, if_neg (by simp)]
 rfl
theorem ins_tot (t : St) (mn : Int) (k : K) : ∃ r, insA t mn k = some r ∧ r.1.ns.length ≤ 64 := by
 by_cases hr : qO t mn = false
 ·exact ⟨(⟨[], 0⟩, 4), by unfold insA; rw [if_pos hr], Nat.zero_le _⟩
 obtain ⟨a, ha, _⟩ := right_RT (by simpa using hr)
 obtain ⟨r, h1, h2⟩ := ins_any mn k ha
 refine ⟨r, h1, ?_⟩
 by_cases h0 : r.2 = 0
 ·obtain ⟨a', _, h4⟩ := h2 h0
  rw [h4]
  exact ha.len
 unfold insA at h1
 rw [if_neg hr] at h1
 split at h1
 ·rw [← Option.some.inj h1]; exact Nat.zero_le _
 ·exfalso
  apply h0
  split at h1
  ·cases h1
  ·split at h1
   ·cases h1
   ·rw [← Option.some.inj h1]
theorem del_tot (t : St) (mn : Int) (i : Int) : ∃ r, delF t mn i = some r ∧ r.1.ns.length ≤ 64 := by
 unfold delF
 by_cases hr : qO t mn = false
 ·exact ⟨(⟨[], 0⟩, 4), by rw [if_pos hr], Nat.zero_le _⟩
 rw [if_neg hr]
 by_cases hi : i < 0 ∨ (t.ns.length : Int) ≤ i
 ·exact ⟨(⟨[], 0⟩, 1), by rw [if_pos hi], Nat.zero_le _⟩
 rw [if_neg hi]
 cases hn : (gn t i.toNat).inn with
 | false => exact ⟨(⟨[], 0⟩, 8), by rw [if_pos rfl], Nat.zero_le _⟩
 | true =>
  obtain ⟨a, ha, _⟩ := right_RT (by simpa using hr)
  have hm : i.toNat ∈ a.ids := (Whole.mem ha.whole i.toNat).2 hn
  obtain ⟨t', a', lf, rg, h1, _, _, _, h5, _⟩ := del_ok ha hm
  refine ⟨(t', 0), by rw [if_neg (by simp), h1], ?_⟩
  rw [h5]
  exact ha.len
theorem nd_un (l : List Nd) : (l.map tree_Insert.un).map tree_Insert.nd = l := by
 rw [List.map_map]; exact List.map_id l
theorem ins_f (t : St) (mn v i : Int) (h : t.ns.length ≤ 64) : tree_Insert.f t.rt (t.ns.map tree_Insert.un) mn v i = (insA t mn (v, i)).map (fun r => (r.1.rt, r.1.ns.map tree_Insert.un, r.2)) := by
 unfold tree_Insert.f
 rw [if_pos (show tree_Insert.okN _ = true from decide_eq_true (by rw [List.length_map]; omega)), nd_un]
theorem del_f (t : St) (mn i : Int) (h : t.ns.length ≤ 64) : tree_Delete.f t.rt (t.ns.map tree_Insert.un) mn i = (delF t mn i).map (fun r => (r.1.rt, r.1.ns.map tree_Insert.un, r.2)) := by
 unfold tree_Delete.f
 rw [if_pos (show tree_Delete.okN _ = true from decide_eq_true (by rw [List.length_map]; omega))]
 rw [show (t.ns.map tree_Insert.un).map tree_Delete.nd = t.ns from nd_un _]
 rfl
theorem rins_f (t : St) (mn v i : Int) (h : t.ns.length ≤ 64) : turnspitref09_Insert.f t.rt (t.ns.map tree_Insert.un) mn v i = (insA t mn (v, i)).map (fun r => (r.1.rt, r.1.ns.map tree_Insert.un, r.2)) := ins_f t mn v i h
theorem rdel_f (t : St) (mn i : Int) (h : t.ns.length ≤ 64) : turnspitref09_Delete.f t.rt (t.ns.map tree_Insert.un) mn i = (delF t mn i).map (fun r => (r.1.rt, r.1.ns.map tree_Insert.un, r.2)) := del_f t mn i h
theorem op_f (mn x : Int) (hx : 0 ≤ x ∧ x ≤ 65535) : ∃ b v id, turnspitlaw09_Op.f mn x 24 = some (b, v, id) ∧ 0 ≤ id ∧ id < 24 := by
 refine ⟨_, _, _, by unfold turnspitlaw09_Op.f; rw [if_neg (by omega)], ?_⟩
 have e : wrap64 (Int.tdiv (wrap64 x) 4) = x / 4 := by
  rw [show wrap64 x = x from by unfold wrap64; omega, Int.tdiv_eq_ediv_of_nonneg hx.1]
  unfold wrap64; omega
 rw [e, Int.tmod_eq_emod_of_nonneg (by omega)]
 omega
theorem new_evt : Evt (fun k => turnspitref09_New.f k 24) ((newA 24).1.rt, (newA 24).1.ns.map tree_Insert.un, 0) := by
 refine ⟨30, fun k hk => ?_⟩
 obtain ⟨d, rfl⟩ : ∃ d, k = 30 + d := ⟨k - 30, by omega⟩
 clear hk
 show turnspitref09_New.f (30 + d) 24 = _
 induction d with
 | zero => kernel_rfl
 | succ d ih => exact turnspitref09_New.mono 24 (30 + d) _ ih
theorem u16 {x : Int} (hx : (Lit.int .u16 x).wf = true) : 0 ≤ x ∧ x ≤ 65535 := by
 simp [Lit.wf, IntKind.min, IntKind.max, IntKind.signed, IntKind.bits] at hx
 omega
theorem made_loop (mn : Int) (ls : List Int) (hw : ∀ x ∈ ls, (Lit.int .u16 x).wf = true) : ∀ (d i : Nat) (t : St) (L : List K), J mn 24 t L → 60 ≤ d + i →
  ∃ t' L', J mn 24 t' L' ∧ Evt (fun k => turnspitlaw09_Made.l0 k mn ls (i : Int) t.rt (t.ns.map tree_Insert.un)) (t'.rt, t'.ns.map tree_Insert.un) := by
 have done : ∀ (i : Nat) (t : St) (L : List K), J mn 24 t L → ¬ (i < ls.length ∧ i < 60) → ∃ t' L', J mn 24 t' L' ∧ Evt (fun k => turnspitlaw09_Made.l0 k mn ls (i : Int) t.rt (t.ns.map tree_Insert.un)) (t'.rt, t'.ns.map tree_Insert.un) := by
  intro i t L hJ hlt
  refine ⟨t, L, hJ, Evt.step (h := fun k => turnspitlaw09_Made.j1 k mn ls (i : Int) false t.rt (t.ns.map tree_Insert.un)) ?_ fun k => ?_⟩
  ·refine Evt.step (Evt.now _) fun k => ?_
   rw [turnspitlaw09_Made.j1, if_neg (by simp)]
  ·rw [turnspitlaw09_Made.l0]
   split
   ·rw [show decide ((i : Int) < 60) = false from decide_eq_false (by omega)]
   ·rfl
 intro d
 induction d with
 | zero => exact fun i t L h hi => done i t L h (by omega)
 | succ d ih =>
  intro i t L h hi
  by_cases hlt : i < ls.length ∧ i < 60
  rotate_left
  ·exact done i t L h hlt
  have hx := hw (ls[i]) (List.getElem_mem hlt.1)
  have hr : rd ls (i : Int) = ls[i] := by
   unfold rd
   rw [Int.toNat_natCast, List.getD_eq_getElem?_getD, List.getElem?_eq_getElem hlt.1]
   rfl
  obtain ⟨b, v, id, hop, g0, g1⟩ := op_f mn (rd ls (i : Int)) (by rw [hr]; exact u16 hx)
  have hD : ∃ r : St × Int, delF t mn id = some r ∧ (r.2 = 0 → ∃ L', J mn 24 r.1 L') := by
   rcases del_J (id := id) h g0 (by omega) with ⟨t', e1, e2, e3⟩ | ⟨r, e1, e2, e3⟩
   ·exact ⟨(t', 0), e1, fun _ => ⟨_, e2⟩⟩
   ·exact ⟨r, e1, fun e => absurd (e2.symm.trans e) (by decide)⟩
  have hI : ∃ r : St × Int, insA t mn (v, id) = some r ∧ (r.2 = 0 → ∃ L', J mn 24 r.1 L') := by
   rcases ins_J (k := (v, id)) h g0 (by show id < _; omega) with ⟨t', e1, e2, e3⟩ | ⟨r, e1, e2, e3⟩
   ·exact ⟨(t', 0), e1, fun _ => ⟨_, e2⟩⟩
   ·exact ⟨r, e1, fun e => absurd (e2.symm.trans e) (by decide)⟩
  obtain ⟨r, d1, d2⟩ := hD
  obtain ⟨r', i1, i2⟩ := hI
  have go : ∀ (t2 : St) (L2 : List K), J mn 24 t2 L2 → (∀ k, turnspitlaw09_Made.j1 (k + 1) mn ls (i : Int) true t.rt (t.ns.map tree_Insert.un) = turnspitlaw09_Made.l0 k mn ls ((i + 1 : Nat) : Int) t2.rt (t2.ns.map tree_Insert.un)) → ∃ t' L', J mn 24 t' L' ∧ Evt (fun k => turnspitlaw09_Made.l0 k mn ls (i : Int) t.rt (t.ns.map tree_Insert.un)) (t'.rt, t'.ns.map tree_Insert.un) := by
   intro t2 L2 hJ hk
   obtain ⟨t', L', h1, h2⟩ := ih (i + 1) t2 L2 hJ (by omega)
   refine ⟨t', L', h1, Evt.step (h := fun k => turnspitlaw09_Made.j1 k mn ls (i : Int) true t.rt (t.ns.map tree_Insert.un)) (Evt.step h2 hk) fun k => ?_⟩
   rw [turnspitlaw09_Made.l0, if_pos (by omega), show decide ((i : Int) < 60) = true from decide_eq_true (by omega)]
  have hj : ∀ k, turnspitlaw09_Made.j1 (k + 1) mn ls (i : Int) true t.rt (t.ns.map tree_Insert.un) = if b = true then (if r'.2 = 0 then turnspitlaw09_Made.l0 k mn ls ((i + 1 : Nat) : Int) r'.1.rt (r'.1.ns.map tree_Insert.un) else turnspitlaw09_Made.l0 k mn ls ((i + 1 : Nat) : Int) t.rt (t.ns.map tree_Insert.un)) else (if r.2 = 0 then turnspitlaw09_Made.l0 k mn ls ((i + 1 : Nat) : Int) r.1.rt (r.1.ns.map tree_Insert.un) else turnspitlaw09_Made.l0 k mn ls ((i + 1 : Nat) : Int) t.rt (t.ns.map tree_Insert.un)) := by
   intro k
   rw [turnspitlaw09_Made.j1, if_pos rfl, if_pos (by omega), if_pos (by omega), hop, Option.bind_some, rdel_f _ _ _ h.le, d1, Option.map_some, Option.bind_some]
   simp only
   rw [rins_f _ _ _ _ h.le, i1, Option.map_some, Option.bind_some, show wrap64 ((i : Int) + 1) = ((i + 1 : Nat) : Int) from by unfold wrap64; omega]
  cases b with
  | true =>
   by_cases h0 : r'.2 = 0
   rotate_left
   ·exact go _ _ h fun k => by rw [hj, if_pos rfl, if_neg h0]
   obtain ⟨L2, hL2⟩ := i2 h0
   exact go _ _ hL2 fun k => by rw [hj, if_pos rfl, if_pos h0]
  | false =>
   by_cases h0 : r.2 = 0
   rotate_left
   ·exact go _ _ h fun k => by rw [hj, if_neg (by simp), if_neg h0]
   obtain ⟨L2, hL2⟩ := d2 h0
   exact go _ _ hL2 fun k => by rw [hj, if_neg (by simp), if_pos h0]
theorem made_evt (mn : Int) (ls : List Int) (hw : ∀ x ∈ ls, (Lit.int .u16 x).wf = true) : ∃ t L, J mn 24 t L ∧ Evt (fun k => turnspitlaw09_Made.f k mn ls) (t.rt, t.ns.map tree_Insert.un) := by
 obtain ⟨t, L, h1, h2⟩ := made_loop mn ls hw 60 0 (newA 24).1 [] (new_J mn (n := 24) (by omega)) (by omega)
 refine ⟨t, L, h1, ?_⟩
 show Evt (fun k => (turnspitref09_New.f k 24).bind fun bt407 => turnspitlaw09_Made.l0 k mn ls 0 bt407.1 bt407.2.1) _
 exact Evt.bind (a := ((newA 24).1.rt, (newA 24).1.ns.map tree_Insert.un, 0)) (h := fun k bt407 => turnspitlaw09_Made.l0 k mn ls 0 bt407.1 bt407.2.1) new_evt h2
def tU (m : Int) (s : S57) : S57 := tree_Insert.un (tN m (tree_Insert.nd s))
theorem turned_loop (m : Int) (r : Int) (l : List S57) (hl : l.length ≤ 1000) : ∀ (d i : Nat) (acc : List S57), d + i = l.length → acc.length = i →
  Evt (fun k => turnspitlaw09_turned.l0 k m (i : Int) r l r acc) (r, acc ++ (l.drop i).map (tU m)) := by
 intro d
 induction d with
 | zero =>
  intro i acc hi ha
  refine Evt.step (Evt.now _) fun k => ?_
  rw [turnspitlaw09_turned.l0, if_neg (by omega), List.drop_eq_nil_of_le (by omega), List.map_nil, List.append_nil]
 | succ d ih =>
  intro i acc hi ha
  have hlt : i < l.length := by omega
  have hrd : zR l (i : Int) = l[i] := by
   unfold zR
   rw [Int.toNat_natCast, List.getD_eq_getElem?_getD, List.getElem?_eq_getElem hlt]
   rfl
  have h := ih (i + 1) (acc ++ [tU m l[i]]) (by omega) (by rw [List.length_append, ha]; rfl)
  rw [List.append_assoc, List.singleton_append, ← List.map_cons, ← List.drop_eq_getElem_cons hlt] at h
  refine Evt.step h fun k => ?_
  rw [turnspitlaw09_turned.l0, if_pos (by omega), if_pos (by omega), hrd, show wrap64 ((i : Int) + 1) = ((i + 1 : Nat) : Int) from by unfold wrap64; omega, if_pos (show acc.length < 3518437208883 by omega)]
  unfold tU tN tree_Insert.nd tree_Insert.un
  obtain ⟨s, hs⟩ : ∃ s, s = l[i] := ⟨_, rfl⟩
  rw [← hs]
  obtain ⟨f0, f1, f2, f3, f4, f5⟩ := s
  have hac : acc.length < 3518437208883 := by omega
  cases f0 <;> simp [hac]
theorem turned_f (m : Int) (t : St) (h : t.ns.length ≤ 64) : Evt (fun k => turnspitlaw09_turned.f k t.rt (t.ns.map tree_Insert.un) m) ((tS m t).rt, (tS m t).ns.map tree_Insert.un) := by
 have e := turned_loop m t.rt (t.ns.map tree_Insert.un) (by rw [List.length_map]; omega) t.ns.length 0 [] (by rw [List.length_map]; rfl) rfl
 rw [List.nil_append, List.drop_zero, List.map_map] at e
 rw [show (tS m t).ns.map tree_Insert.un = t.ns.map (tU m ∘ tree_Insert.un) from List.map_map]
 exact e
theorem tturns : turnspitlaw09_TreeTurns.Pure := by
 intro a0 l1 a2 _ _ _ hw hw2
 obtain ⟨t, L, hJ, hE⟩ := made_evt a0 l1 hw
 obtain ⟨id, hid⟩ : ∃ id : Int, id = (l1.length : Int) % 24 := ⟨_, rfl⟩
 obtain ⟨v, hv⟩ : ∃ v : Int, v = IntKind.u64.wrap (a0 + 7) := ⟨_, rfl⟩
 have hi0 : 0 ≤ id := by omega
 have hi1 : id < 24 := by omega
 have hT : J (IntKind.u64.wrap (a0 + a2)) 24 (tS a2 t) (L.map (tK a2)) := J_tS hJ
 obtain ⟨r, e1, r64⟩ := ins_tot t a0 (v, id)
 obtain ⟨d, e2, d64⟩ := del_tot t a0 id
 have hx : ((r.2 == 0) != (d.2 == 0)) = true := by
  rcases ins_J (k := (v, id)) hJ hi0 (by show id < _; omega) with ⟨t', f1, f2, f3⟩ | ⟨r', f1, f2, x, f3, f4⟩
  ·rcases del_J (id := id) hJ hi0 hi1 with ⟨t2, g1, g2, x, g3, g4⟩ | ⟨d', g1, g2, g3⟩
   ·exact absurd g4 (f3 x g3)
   ·rw [e1] at f1; rw [e2] at g1
    rw [Option.some.inj f1, Option.some.inj g1, g2]; rfl
  ·rcases del_J (id := id) hJ hi0 hi1 with ⟨t2, g1, g2, y, g3, g4⟩ | ⟨d', g1, g2, g3⟩
   ·rw [e1] at f1; rw [e2] at g1
    rw [Option.some.inj f1, Option.some.inj g1, f2]; rfl
   ·exact absurd f4 (g3 x f3)
 have i1 := ins_f t a0 v id hJ.le
 rw [e1, Option.map_some] at i1
 have d1 := del_f t a0 id hJ.le
 rw [e2, Option.map_some] at d1
 have i2 := ins_f (tS a2 t) (IntKind.u64.wrap (a0 + a2)) (IntKind.u64.wrap (v + a2)) id hT.le
 rw [show ((IntKind.u64.wrap (v + a2), id) : K) = tK a2 (v, id) from rfl, ins_tS hJ, e1, Option.map_some, Option.map_some] at i2
 have d2 := del_f (tS a2 t) (IntKind.u64.wrap (a0 + a2)) id hT.le
 rw [delF_tS hJ, e2, Option.map_some, Option.map_some] at d2
 obtain ⟨K0, h0⟩ := hE
 obtain ⟨K1, h1⟩ := turned_f a2 t hJ.le
 obtain ⟨K2, h2⟩ := turned_f a2 r.1 r64
 obtain ⟨K3, h3⟩ := turned_f a2 d.1 d64
 obtain ⟨K4, h4⟩ := rsame9 (l := (tS a2 r.1).ns.map tree_Insert.un) (a := (tS a2 r.1).rt) (by rw [List.length_map, zaD]; omega)
 obtain ⟨K5, h5⟩ := rsame9 (l := (tS a2 d.1).ns.map tree_Insert.un) (a := (tS a2 d.1).rt) (by rw [List.length_map, zaD]; omega)
 refine ⟨K0 + K1 + K2 + K3 + K4 + K5, ?_⟩
 have g0 := h0 (K0 + K1 + K2 + K3 + K4 + K5) (by omega)
 have g1 := h1 (K0 + K1 + K2 + K3 + K4 + K5) (by omega)
 have g2 := h2 (K0 + K1 + K2 + K3 + K4 + K5) (by omega)
 have g3 := h3 (K0 + K1 + K2 + K3 + K4 + K5) (by omega)
 have g4 := h4 (K0 + K1 + K2 + K3 + K4 + K5) (by omega)
 have g5 := h5 (K0 + K1 + K2 + K3 + K4 + K5) (by omega)
 simp only at g0 g1 g2 g3 g4 g5
 unfold turnspitlaw09_TreeTurns.f
 rw [show turnspitlaw09_awake.f = some true from rfl, Option.bind_some, if_pos rfl, g0, Option.bind_some, ← hid, ← hv]
 simp only
 rw [i1, Option.bind_some, g1, Option.bind_some]
 simp only
 rw [i2, Option.bind_some, d1, Option.bind_some, Option.bind_some]
 simp only
 rw [d2, Option.bind_some]
 simp only
 rw [if_pos (show r.2 = (tR a2 r).2 from rfl), if_pos (show d.2 = (tR a2 d).2 from rfl), if_pos hx, g2, Option.bind_some]
 simp only
 rw [show (tR a2 r).1 = tS a2 r.1 from rfl, g4, Option.bind_some, if_pos rfl, g3, Option.bind_some]
 simp only
 rw [show (tR a2 d).1 = tS a2 d.1 from rfl, g5, Option.bind_some]
end Go.Proofs.YtfapmcpmfeigbaaDoor.QTreeTurns
namespace Go.Proofs.YtfapmcpmfeigbaaDoor.Pure
theorem TreeTurns : QTreeTurns.turnspitlaw09_TreeTurns.Pure := QTreeTurns.tturns
end Go.Proofs.YtfapmcpmfeigbaaDoor.Pure
end
section
namespace Go.Proofs.YtfapmcpmfeigbaaDoor.Tm
open Go.RowKit Go Go.Proofs Go.Proofs.YtfapmcpmfeigbaaDoor Go.Proofs.YtfapmcpmfeigbaaDoor.Tr
set_option linter.unusedVariables false
set_option linter.unusedSimpArgs false
theorem gE : Tryd.prog.globalNamed "turnspit/tree.empty" = some 0 := by kernel_rfl
theorem tE : (Tryd.prog.globals[0]?).map (·.type) = some 57 := by kernel_rfl
theorem u4 : Tryd.prog.cellsOf 4 = 1 := by kernel_rfl
theorem u25 : Tryd.prog.cellsOf 25 = 1 := by kernel_rfl
theorem u3 : Tryd.prog.cellsOf 3 = 1 := by kernel_rfl
theorem one_bool {H : Type} {enc : TypeId × Value → H} {W : World} {base : Nat} {sp : Nat → Bool} {held : Bool} {n : Nat} {cs : List Value} {i : Nat} {y : DataW H × List MemPlace} {b : Bool} (h : DataW.trod enc Tryd.prog W base sp held n 4 ((cs.drop i).take 1) = some y) (hy : y.1 = .lit (.bool b)) : cs[i]? = some (.bool b) := by
 obtain ⟨b', hc, rfl⟩ := DataW.trod_bool Tryd.underlying4 h
 simp only [DataW.lit.injEq, Lit.bool.injEq] at hy
 subst hy
 have := congrArg (·[0]?) hc
 simpa [List.getElem?_take, List.getElem?_drop] using this
theorem zbZ {H : Type} {enc : TypeId × Value → H} {W : World} {base : Nat} {sp : Nat → Bool} {held : Bool} {n : Nat} {cs : List Value} {i : Nat} {t : TypeId} {k : IntKind} (ht : Tryd.prog.underlying t = some (.int k)) {y : DataW H × List MemPlace} {z : Int} (h : DataW.trod enc Tryd.prog W base sp held n t ((cs.drop i).take 1) = some y) (hy : y.1 = .lit (.int k z)) : cs[i]? = some (.int k z) := by
 obtain ⟨z', hc, rfl, _⟩ := DataW.trod_int ht h
 simp only [DataW.lit.injEq, Lit.int.injEq, true_and] at hy
 subst hy
 have := congrArg (·[0]?) hc
 simpa [List.getElem?_take, List.getElem?_drop] using this
set_option maxRecDepth 100000 in
/-- what the row's condition gives -/
theorem Emp_of_laid {W : World} (h : laidMetH Tryd.prog [("turnspit/tree.empty", Rows.laid_turnspit_tree_empty)] W) : Emp W := by
 rw [MakeChecks.laidMetH_plain _ _ _ (by kernel_rfl)] at h
 obtain ⟨ps, ⟨g', t', cs, fuel, p, q, hg', ht', hvar, hd, _, _⟩, _⟩ := h
 obtain rfl := Option.some.inj (gE.symm.trans hg')
 obtain rfl := Option.some.inj (tE.symm.trans ht')
 obtain ⟨xs, n, _, hx, hl, hlen, hf⟩ := DataW.trod_struct Tryd.underlying57 hd
 have hc := fun i => World.var?_cell gE hvar i
 match xs, hlen with
 | [y0, y1, y2, y3, y4, y5], _ =>
  have hx1 := congrArg Prod.fst hx
  simp only [Rows.laid_turnspit_tree_empty, List.map_cons, List.map_nil, DataW.agg.injEq, List.cons.injEq, and_true] at hx1
  obtain ⟨e0, e1, e2, e3, e4, e5⟩ := hx1
  have f0 := hf 0 _ rfl
  have f1 := hf 1 _ rfl
  have f2 := hf 2 _ rfl
  have f3 := hf 3 _ rfl
  have f4 := hf 4 _ rfl
  have f5 := hf 5 _ rfl
  simp only [u4, u25, u3, List.getElem_cons_zero, List.getElem_cons_succ, List.getElem?_cons_zero, List.getElem?_cons_succ] at f0 f1 f2 f3 f4 f5
  have g0 := one_bool f0 e0.symm
  have g1 := one_bool f1 e1.symm
  have g2 := zbZ Tryd.underlying25 f2 e2.symm
  have g3 := zbZ Tryd.underlying3 f3 e3.symm
  have g4 := zbZ Tryd.underlying3 f4 e4.symm
  have g5 := zbZ Tryd.underlying3 f5 e5.symm
  have c0 := (hc 0).trans ((Array.getElem?_toList).symm.trans g0)
  exact ⟨World.block_lt_of_cell? W _ c0, c0, (hc 1).trans ((Array.getElem?_toList).symm.trans g1), (hc 2).trans ((Array.getElem?_toList).symm.trans g2), (hc 3).trans ((Array.getElem?_toList).symm.trans g3), (hc 4).trans ((Array.getElem?_toList).symm.trans g4), (hc 5).trans ((Array.getElem?_toList).symm.trans g5)⟩
end Go.Proofs.YtfapmcpmfeigbaaDoor.Tm
end
section
namespace Go.Proofs.YtfapmcpmfeigbaaDoorW.PrintWords
open Go.ChangeShapes Go.WideShapes
theorem sized_ints {H : Type} {enc : TypeId × Value → H} {P : Program} {W : World} {base : Nat} {spare : Nat → Bool} {held : Bool} {t e : TypeId} {k : IntKind} {a : Option Addr} {len cap : Nat} {d : DataW H} {ps : List MemPlace} {ts : List TypeId} {ds : List (DataW H)} {j : Nat}
  (hsz : (DataW.weightsEach P ts ds).all (· ≤ reachBytes) = true) (ht : ts[j]? = some t) (hd : ds[j]? = some d) (hu : P.underlying t = some (.slice e)) (he : P.underlying e = some (.int k)) (hc : P.cellsOf e = 1) {B : Nat} (hB : P.bytesOf e = B)
  (h : DataW.Trod enc P W base spare held t (.slice a len cap) d ps) : len * B ≤ 140737488351232 := by
 obtain ⟨fuel, hf⟩ := h
 rcases open_ints hu he hc hf with ⟨hcs, _⟩ | ⟨x, l, c, zs, hcs, _, hl, _, hz, hx, _, _⟩
 ·simp [Value.cells] at hcs
  obtain ⟨rfl, rfl, rfl⟩ := hcs
  simp
 ·simp [Value.cells] at hcs
  obtain ⟨rfl, rfl, rfl⟩ := hcs
  obtain ⟨hx, _⟩ := Prod.mk.inj hx
  subst hx
  have z := sized_slice hsz ht hd hu
  rw [hB] at z
  have hl2 : len ≤ zs.length := by
   rw [hz]
   split
   ·exact hl
   ·exact Nat.le_refl _
  have h1 : (lits (H := H) k (zs.take len)).length + (lits (H := H) k (zs.drop len)).length = zs.length := by
   simp [lits]
   omega
  rw [h1] at z
  exact Nat.le_trans (Nat.mul_le_mul_right _ hl2) z
end Go.Proofs.YtfapmcpmfeigbaaDoorW.PrintWords
end
