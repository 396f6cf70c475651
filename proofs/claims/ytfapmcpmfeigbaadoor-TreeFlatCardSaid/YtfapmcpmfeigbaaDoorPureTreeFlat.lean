/- The pure law of TreeFlat: the height of a right tree; no condition. -/
import Derived.Test.YtfapmcpmfeigbaaDoorQTreeFlatx
import Derived.Test.YtfapmcpmfeigbaaDoorTmP
namespace Go.Proofs.YtfapmcpmfeigbaaDoor.QTreeFlat
open Go.RowKit Go Go.Proofs Go.Proofs.YtfapmcpmfeigbaaDoor Go.Proofs.YtfapmcpmfeigbaaDoor.Tr Go.Proofs.YtfapmcpmfeigbaaDoor.Tk Go.Proofs.YtfapmcpmfeigbaaDoor.Tm Go.Proofs.YtfapmcpmfeigbaaDoorW.PrintWords Go.Proofs.YtfapmcpmfeigbaaDoorW.PrintLast
set_option linter.unusedVariables false
/-- as many as 2 to the power of the black height, less one, and the height at most twice it, and one more below a red one -/
theorem rb_size : ∀ {a : T} {n : Nat}, RB a n → 2 ^ n ≤ a.size + 1 ∧ hgt a ≤ 2 * (n : Int) + (if a.red = true then 1 else 0) ∧ hgt a ≤ a.size ∧ (0 < hgt a ↔ 0 < a.size)
  | .E, n, h => by
    have h : n = 0 := h
    subst h
    simp [hgt, T.size, T.red]
  | .B c l x r, n, ⟨h1, m, h2, h3, h4⟩ => by
    obtain ⟨a1, a2, a3, a4⟩ := rb_size h2
    obtain ⟨b1, b2, b3, b4⟩ := rb_size h3
    have e := hgt_le l
    have e' := hgt_le r
    have hs : (T.B c l x r).size = l.size + r.size + 1 := rfl
    have hh : hgt (T.B c l x r) = 1 + max (hgt l) (hgt r) := rfl
    rw [hs, hh, show (T.B c l x r).red = c from rfl]
    cases c with
    | true =>
      obtain ⟨d1, d2⟩ := h1 rfl
      rw [d1] at a2
      rw [d2] at b2
      simp only [if_true] at h4 ⊢
      simp only [Bool.false_eq_true, if_false] at a2 b2
      subst h4
      refine ⟨by omega, by omega, by omega, by omega⟩
    | false =>
      simp only [Bool.false_eq_true, if_false] at h4 ⊢
      subst h4
      have a2' : hgt l ≤ 2 * (m : Int) + 1 := by split at a2 <;> omega
      have b2' : hgt r ≤ 2 * (m : Int) + 1 := by split at b2 <;> omega
      rw [Nat.pow_succ]
      refine ⟨by omega, by omega, by omega, by omega⟩
theorem pow_le {h n : Nat} (H : h ≤ n) : 2 ^ h ≤ 2 ^ n := Nat.pow_le_pow_right (by omega) H
/-- the last round -/
theorem l1_step {h m n : Nat} (hm : h / 2 ≤ m) (hp : 2 ^ m ≤ n + 1) (hn : n ≤ 64) (hh : h ≤ n) (hz : 0 < h ↔ 0 < n) :
    ∀ d i : Nat, d + i = h / 2 → Evt (fun k => turnspitlaw09_TreeFlat.l1 k true (n : Int) (h : Int) ((2 ^ i : Nat) : Int) (i : Int)) true
  | 0, i, hi => by
    have h2 : wrap64 (Int.tdiv (h : Int) 2) = ((h / 2 : Nat) : Int) := by
      rw [show Int.tdiv (h : Int) 2 = ((h / 2 : Nat) : Int) from rfl]
      unfold wrap64; omega
    have hle : 2 ^ i ≤ n + 1 := Nat.le_trans (pow_le (by omega)) hp
    refine Evt.step (Evt.now true) fun k => ?_
    rw [turnspitlaw09_TreeFlat.l1, h2, if_neg (by omega), if_pos rfl, if_pos (by unfold wrap64; omega), if_pos (by omega)]
    congr 1
    rw [beq_iff_eq]
    exact decide_eq_decide.2 (by omega)
  | d + 1, i, hi => by
    have h2 : wrap64 (Int.tdiv (h : Int) 2) = ((h / 2 : Nat) : Int) := by
      rw [show Int.tdiv (h : Int) 2 = ((h / 2 : Nat) : Int) from rfl]
      unfold wrap64; omega
    have hle : 2 ^ (i + 1) ≤ n + 1 := Nat.le_trans (pow_le (by omega)) hp
    have hps : 2 ^ (i + 1) = 2 ^ i * 2 := Nat.pow_succ ..
    refine Evt.step (l1_step hm hp hn hh hz d (i + 1) (by omega)) fun k => ?_
    rw [turnspitlaw09_TreeFlat.l1, h2, if_pos (by omega)]
    rw [show wrap64 (((2 ^ i : Nat) : Int) * 2) = ((2 ^ (i + 1) : Nat) : Int) from by rw [hps]; unfold wrap64; omega, show wrap64 ((i : Int) + 1) = ((i + 1 : Nat) : Int) from by unfold wrap64; omega]
theorem nd_un (l : List Nd) : (l.map tree_Insert.un).map tree_Insert.nd = l := by
  rw [List.map_map]; exact List.map_id l
theorem ins_f (t : St) (mn v i : Int) (h : t.ns.length ≤ 64) : tree_Insert.f t.rt (t.ns.map tree_Insert.un) mn v i = (insA t mn (v, i)).map (fun r => (r.1.rt, r.1.ns.map tree_Insert.un, r.2)) := by
  unfold tree_Insert.f
  rw [if_pos (show tree_Insert.okN _ = true from decide_eq_true (by rw [List.length_map]; omega)), nd_un]
theorem walk_f (t : St) (h : t.ns.length ≤ 64) : tree_Walk.f t.rt (t.ns.map tree_Insert.un) = some ((walkA t).map tree_Walk.un2) := by
  unfold tree_Walk.f
  rw [if_pos (show tree_Walk.okN _ = true from decide_eq_true (by rw [List.length_map]; omega))]
  rw [show (t.ns.map tree_Insert.un).map tree_Walk.nd = t.ns from nd_un _]
theorem height_f (t : St) (h : t.ns.length ≤ 64) : tree_Height.f t.rt (t.ns.map tree_Insert.un) = some (heightA t) := by
  unfold tree_Height.f
  rw [if_pos (show tree_Height.okN _ = true from decide_eq_true (by rw [List.length_map]; omega))]
  rw [show (t.ns.map tree_Insert.un).map tree_Height.nd = t.ns from nd_un _]
theorem op_f (mn x : Int) : ∃ b v, turnspitlaw09_Op.f mn x 64 = some (b, v, Int.tmod (wrap64 (Int.tdiv (wrap64 x) 4)) 64) := ⟨_, _, by unfold turnspitlaw09_Op.f; rw [if_neg (by omega)]⟩
theorem ends {t : St} {a : T} (h : RT t a) : Evt (fun k => (tree_Walk.f t.rt (t.ns.map tree_Insert.un)).bind fun t143 => ((tree_Height.f t.rt (t.ns.map tree_Insert.un)).bind fun t146 => (turnspitlaw09_TreeFlat.l1 k true (t143.length : Int) t146 1 0))) true := by
  rw [walk_f t h.len, height_f t h.len]
  simp only [Option.bind_some]
  rw [h.walk, heightA_some h.ord, List.length_map]
  unfold keysOf
  rw [List.length_map, size_ids]
  obtain ⟨m, hm⟩ := h.rb
  obtain ⟨c1, c2, c3, c4⟩ := rb_size hm
  rw [if_neg (by rw [h.red]; simp)] at c2
  have hsz : a.size ≤ 64 := by
    rw [← size_ids]
    have := nodup_len h.whole.nd (fun x hx => h.whole.lay.lt x hx)
    have := h.len
    omega
  have hp := (hgt_le a).1
  obtain ⟨H, hH⟩ : ∃ H : Nat, hgt a = (H : Int) := ⟨(hgt a).toNat, by omega⟩
  rw [hH] at c2 c3 c4 ⊢
  exact l1_step (h := H) (m := m) (n := a.size) (by omega) c1 hsz (by omega) (by omega) (H / 2) 0 (by omega)
theorem loop (mn : Int) (l : List Int) : ∀ (d i : Nat) (t : St) (a : T), RT t a → 60 ≤ d + i → Evt (fun k => turnspitlaw09_TreeFlat.l0 k mn l true (i : Int) t.rt (t.ns.map tree_Insert.un)) true := by
  intro d
  induction d with
  | zero =>
    intro i t a h hi
    refine Evt.step (h := fun k => turnspitlaw09_TreeFlat.j1 k mn l true (i : Int) false t.rt (t.ns.map tree_Insert.un)) ?_ fun k => ?_
    · refine Evt.step (ends h) fun k => ?_
      rw [turnspitlaw09_TreeFlat.j1, if_neg (by simp)]
    · rw [turnspitlaw09_TreeFlat.l0, show decide ((i : Int) < 60) = false from decide_eq_false (by omega)]
      split <;> rfl
  | succ d ih =>
    intro i t a h hi
    by_cases hlt : i < l.length ∧ i < 60
    · refine Evt.step (h := fun k => turnspitlaw09_TreeFlat.j1 k mn l true (i : Int) true t.rt (t.ns.map tree_Insert.un)) ?_ fun k => ?_
      · obtain ⟨b, v, hop⟩ := op_f mn (rd l (i : Int))
        obtain ⟨r, e1, e2⟩ := ins_any mn (IntKind.u64.wrap (mn + IntKind.u64.wrap (i : Int)), Int.tmod (wrap64 (Int.tdiv (wrap64 (rd l (i : Int))) 4)) 64) h
        by_cases hr : r.2 = 0
        · obtain ⟨a', h', _⟩ := e2 hr
          refine Evt.step (ih (i + 1) r.1 a' h' (by omega)) fun k => ?_
          rw [turnspitlaw09_TreeFlat.j1, if_pos rfl, if_pos (by omega), if_pos (by omega), hop, Option.bind_some, ins_f _ _ _ _ h.len, e1, Option.map_some, Option.bind_some, if_pos hr]
          rw [show wrap64 ((i : Int) + 1) = ((i + 1 : Nat) : Int) from by unfold wrap64; omega]
        · refine Evt.step (ih (i + 1) t a h (by omega)) fun k => ?_
          rw [turnspitlaw09_TreeFlat.j1, if_pos rfl, if_pos (by omega), if_pos (by omega), hop, Option.bind_some, ins_f _ _ _ _ h.len, e1, Option.map_some, Option.bind_some, if_neg hr]
          rw [show wrap64 ((i : Int) + 1) = ((i + 1 : Nat) : Int) from by unfold wrap64; omega]
      · rw [turnspitlaw09_TreeFlat.l0, if_pos (by omega), show decide ((i : Int) < 60) = true from decide_eq_true (by omega)]
    · refine Evt.step (h := fun k => turnspitlaw09_TreeFlat.j1 k mn l true (i : Int) false t.rt (t.ns.map tree_Insert.un)) ?_ fun k => ?_
      · refine Evt.step (ends h) fun k => ?_
        rw [turnspitlaw09_TreeFlat.j1, if_neg (by simp)]
      · rw [turnspitlaw09_TreeFlat.l0]
        split
        · rw [show decide ((i : Int) < 60) = false from decide_eq_false (by omega)]
        · rfl
theorem flat : turnspitlaw09_TreeFlat.Pure := by
  intro a0 l1 _ _ _ _
  obtain ⟨n1, n2, n3⟩ := new_RT (n := 64) (by omega)
  obtain ⟨k, hk⟩ := (loop a0 l1 60 0 (newA 64).1 .E n1 (by omega)).get
  refine ⟨k, ?_⟩
  rw [turnspitlaw09_TreeFlat.f, turnspitlaw09_awake.f, Option.bind_some, if_pos rfl, tree_New.f, Option.bind_some, if_pos (by rw [n3])]
  exact hk
end Go.Proofs.YtfapmcpmfeigbaaDoor.QTreeFlat
namespace Go.Proofs.YtfapmcpmfeigbaaDoor.Pure
theorem TreeFlat : QTreeFlat.turnspitlaw09_TreeFlat.Pure := QTreeFlat.flat
end Go.Proofs.YtfapmcpmfeigbaaDoor.Pure
