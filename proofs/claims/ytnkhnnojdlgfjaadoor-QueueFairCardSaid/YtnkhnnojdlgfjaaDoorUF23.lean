/- Parts of the proof, joined: Qp2, AwQ1. -/
import Derived.Test.YtnkhnnojdlgfjaaDoorUF22
section
namespace Go.Proofs.YtnkhnnojdlgfjaaDoor.Qu
open Go Go.RowKit Go.Proofs Go.Proofs.YtnkhnnojdlgfjaaDoor Go.Proofs.YtnkhnnojdlgfjaaDoor.Tr Go.Proofs.YtnkhnnojdlgfjaaDoor.Tk Go.Proofs.YtnkhnnojdlgfjaaDoor.Tm
set_option linter.unusedVariables false
theorem QJ.known {n : Nat} {q : Q} {L : List K} (h : QJ n q L) {id : Int} : knownA q id = true ↔ 0 ≤ id ∧ id < n := by
  unfold knownA
  rw [Bool.and_eq_true, decide_eq_true_iff, decide_eq_true_iff, h.len]
theorem weighed_iff {w : Int} : weighedA w = true ↔ 1 ≤ w ∧ w ≤ 88761 := by
  unfold weighedA
  rw [Bool.and_eq_true, decide_eq_true_iff, decide_eq_true_iff]
theorem QJ.weight {n : Nat} {q : Q} {L : List K} (h : QJ n q L) {id : Int} (h0 : 0 ≤ id) (h1 : id < n) (hh : hereA q id = true) : weighedA (q.ws.getD id.toNat 0) = true := by
  have := (okAt_iff.1 (h.wt id.toNat (by omega))).1
  rw [show ((id.toNat : Nat) : Int) = id by omega, hh] at this
  exact this.symm
theorem QJ.hereCur {n : Nat} {q : Q} {L : List K} (h : QJ n q L) (hc : q.cur ≠ -1) : hereA q q.cur = true := by
  have := h.c1
  exact (h.here (by omega)).2 (Or.inl rfl)
theorem delta_in {d w : Int} (h0 : 0 ≤ d) (hw : 1 ≤ w) : 0 ≤ deltaA d w ∧ deltaA d w ≤ 281474976710656 := by
  unfold deltaA
  have : 0 ≤ d * 1024 / w := Int.ediv_nonneg (by omega) (by omega)
  split <;> omega
theorem step_lag {v mn d : Int} (h0 : 0 ≤ d) (h1 : d ≤ 281474976710656) (h2 : -1125899906842624 ≤ lagf mn v) (h3 : lagf mn v ≤ 1125899906842624) :
    lagf mn (stepA v mn d) = if lagf mn v + d ≤ 1125899906842624 then lagf mn v + d else 1125899906842624 := by
  unfold stepA
  simp only [w64u]
  rw [lag_eq] at h2 h3
  simp only [lag_eq]
  split
  · split <;> omega
  · split <;> split <;> omega
theorem ran_QJ {n : Nat} {q : Q} {L : List K} (h : QJ n q L) (hc : q.cur ≠ -1) {v : Int} (hv : -1125899906842624 ≤ lagf q.mn v ∧ lagf q.mn v ≤ 1125899906842624) : QJ n { q with v := v } L ∧ keysA { q with v := v } = ins q.mn L (v, q.cur) := by
  have hk : keysA { q with v := v } = ins q.mn L (v, q.cur) := by
    rw [keys_eq (q := { q with v := v }) h.tr]
    exact if_neg hc
  refine ⟨⟨h.tr, h.len, h.c1, h.c2, fun c => absurd c hc, h.out, h.wt, h.sum, fun k hk2 => ?_⟩, hk⟩
  rw [hk] at hk2
  rcases mem_ins.1 hk2 with rfl | hk2
  · exact far_iff.2 hv
  · refine h.near k ?_
    rw [keys_eq h.tr, if_neg hc]
    exact mem_ins.2 (Or.inr hk2)
theorem cur_near {n : Nat} {q : Q} {L : List K} (h : QJ n q L) (hc : q.cur ≠ -1) : -1125899906842624 ≤ lagf q.mn q.v ∧ lagf q.mn q.v ≤ 1125899906842624 := by
  have := far_iff.1 (h.near (q.v, q.cur) (by rw [keys_eq h.tr, if_neg hc]; exact mem_ins.2 (Or.inl rfl)))
  exact this
theorem tick_QJ {n : Nat} {q : Q} {L : List K} (h : QJ n q L) (hc : q.cur ≠ -1) {d : Int} (h0 : 0 ≤ d) (h1 : d ≤ 1099511627776) :
    ∃ v, v = stepA q.v q.mn (deltaA d (q.ws.getD q.cur.toNat 0)) ∧ (-1125899906842624 ≤ lagf q.mn v ∧ lagf q.mn v ≤ 1125899906842624) ∧ lagf q.mn v = (if lagf q.mn q.v + deltaA d (q.ws.getD q.cur.toNat 0) ≤ 1125899906842624 then lagf q.mn q.v + deltaA d (q.ws.getD q.cur.toNat 0) else 1125899906842624) ∧
    (tickA q d).1 = upA { q with v := v } ∧ (tickA q d).2.2 = 0 ∧ QJ n (upA { q with v := v }) L ∧ keysA (upA { q with v := v }) = ins q.mn L (v, q.cur) := by
  have hcn := cur_near h hc
  have hw := weighed_iff.1 (h.weight (id := q.cur) (by have := h.c1; omega) h.c2 (h.hereCur hc))
  have hd := delta_in h0 hw.1
  have hs := step_lag (v := q.v) (mn := q.mn) hd.1 hd.2 hcn.1 hcn.2
  generalize hv : stepA q.v q.mn (deltaA d (q.ws.getD q.cur.toNat 0)) = v at hs ⊢
  have hb : -1125899906842624 ≤ lagf q.mn v ∧ lagf q.mn v ≤ 1125899906842624 := by
    rw [hs]
    split <;> omega
  obtain ⟨g1, g2⟩ := ran_QJ h hc hb
  obtain ⟨u1, u2, u3, u4⟩ := up_QJ g1
  have e : tickA q d = (upA { q with v := v }, (tickA q d).2.1, 0) := by
    unfold tickA
    rw [if_neg (by rw [h.right]; simp), if_neg (by omega), if_neg hc, hv]
  exact ⟨v, rfl, hb, hs, by rw [e], by rw [e], u1, u2.trans g2⟩
theorem new_QJ {n : Int} (mn : Int) (h : 0 ≤ n ∧ n ≤ 64) : newQ n mn = (⟨(newA n).1, -1, 0, mn, 0, List.replicate n.toNat 0⟩, 0) ∧ QJ n.toNat ⟨(newA n).1, -1, 0, mn, 0, List.replicate n.toNat 0⟩ [] := by
  have hj := new_J mn h
  have hk : keysA ⟨(newA n).1, -1, 0, mn, 0, List.replicate n.toNat 0⟩ = [] := (keys_eq (q := ⟨(newA n).1, -1, 0, mn, 0, List.replicate n.toNat 0⟩) hj).trans (if_pos rfl)
  refine ⟨by unfold newQ; rw [if_neg (by omega)], hj, List.length_replicate, by show (-1 : Int) ≤ -1; omega, by show (-1 : Int) < _; omega, fun _ => rfl, fun c => absurd rfl c, fun i hi => ?_, ?_, by rw [hk]; intro k hk; cases hk⟩
  · refine okAt_iff.2 ?_
    have e : hereA ⟨(newA n).1, -1, 0, mn, 0, List.replicate n.toNat 0⟩ (i : Int) = false := by
      refine Bool.eq_false_iff.2 fun e => ?_
      unfold hereA at e
      rw [Bool.or_eq_true, beq_iff_eq, ← J.mem hj (Int.natCast_nonneg i)] at e
      rcases e with e | ⟨y, hy, e⟩
      · have : (-1 : Int) = (i : Int) := e
        omega
      · cases hy
    rw [e]
    have : (List.replicate n.toNat (0 : Int)).getD i 0 = 0 := by
      rw [List.getD_eq_getElem?_getD, List.getElem?_replicate]
      split <;> rfl
    show false = weighedA ((List.replicate n.toNat (0 : Int)).getD i 0) ∧ _
    rw [this]
    exact ⟨rfl, Or.inr rfl⟩
  · show sumA (List.replicate n.toNat 0) 0 = 0
    have : ∀ m, sumA (List.replicate m 0) 0 = 0 := by
      intro m
      induction m with
      | zero => rfl
      | succ m ih =>
        rw [List.replicate_succ]
        show sumA _ (wrap64 (0 + 0)) = 0
        rw [show wrap64 (0 + 0) = 0 from w0]
        exact ih
    exact this _
end Go.Proofs.YtnkhnnojdlgfjaaDoor.Qu
end
section
namespace Go.Proofs.YtnkhnnojdlgfjaaDoor.Qw
open Go.RowKit Go Go.Proofs Go.Proofs.YtnkhnnojdlgfjaaDoor Go.Proofs.YtnkhnnojdlgfjaaDoor.Tr Go.Proofs.YtnkhnnojdlgfjaaDoor.Tk Go.Proofs.YtnkhnnojdlgfjaaDoor.Tm Go.Proofs.YtnkhnnojdlgfjaaDoor.Qu
set_option linter.unusedVariables false
set_option linter.unusedSimpArgs false
structure FQ (q : Q) (rt : Int) (n : Nat) (cur v mn load : Int) (m : Nat) : Prop where
  h0 : q.t.rt = rt
  h1 : q.t.ns.length = n
  h2 : q.cur = cur
  h3 : q.v = v
  h4 : q.mn = mn
  h5 : q.load = load
  h6 : q.ws.length = m
def aq : Q := (newQ 5 18446744073709551613).1
def aa : Q := ((enterA aq 3 1024 0).getD (q0, 0)).1
def ab : Q := ((enterA aa 1 1024 0).getD (q0, 0)).1
def ac : Q := ((pickA ab).getD (q0, 0, 0)).1
def ad : Q := (tickA ac 5).1
def ax : Q := ((pickA ad).getD (q0, 0, 0)).1
theorem a_q : newQ 5 18446744073709551613 = (aq, 0) := by kernel_rfl
theorem a_a : enterA aq 3 1024 0 = some (aa, 0) := by kernel_rfl
theorem a_b : enterA aa 1 1024 0 = some (ab, 0) := by kernel_rfl
theorem a_c : pickA ab = some (ac, 1, 0) := by kernel_rfl
theorem a_d : tickA ac 5 = (ad, true, 0) := by kernel_rfl
theorem a_x : pickA ad = some (ax, 3, 0) := by kernel_rfl
theorem a_k : enterA ax 3 1024 0 = some (q0, 9) := by kernel_rfl
theorem a_l : leaveA ax 0 = some (q0, 0, 8) := by kernel_rfl
theorem a_y : (keysF ax).length = 2 := by kernel_rfl
theorem a_r : rightQ ax = true := by kernel_rfl
theorem f_q : FQ aq (-1) 5 (-1) 0 18446744073709551613 0 5 := ⟨by kernel_rfl, by kernel_rfl, by kernel_rfl, by kernel_rfl, by kernel_rfl, by kernel_rfl, by kernel_rfl⟩
theorem f_a : FQ aa 3 5 (-1) 0 18446744073709551613 1024 5 := ⟨by kernel_rfl, by kernel_rfl, by kernel_rfl, by kernel_rfl, by kernel_rfl, by kernel_rfl, by kernel_rfl⟩
theorem f_b : FQ ab 3 5 (-1) 0 18446744073709551613 2048 5 := ⟨by kernel_rfl, by kernel_rfl, by kernel_rfl, by kernel_rfl, by kernel_rfl, by kernel_rfl, by kernel_rfl⟩
theorem f_c : FQ ac 3 5 1 18446744073709551613 18446744073709551613 2048 5 := ⟨by kernel_rfl, by kernel_rfl, by kernel_rfl, by kernel_rfl, by kernel_rfl, by kernel_rfl, by kernel_rfl⟩
theorem f_d : FQ ad 3 5 1 2 18446744073709551613 2048 5 := ⟨by kernel_rfl, by kernel_rfl, by kernel_rfl, by kernel_rfl, by kernel_rfl, by kernel_rfl, by kernel_rfl⟩
theorem f_x : FQ ax 1 5 3 18446744073709551613 18446744073709551613 2048 5 := ⟨by kernel_rfl, by kernel_rfl, by kernel_rfl, by kernel_rfl, by kernel_rfl, by kernel_rfl, by kernel_rfl⟩
theorem f_0 : FQ q0 0 0 0 0 0 0 0 := ⟨rfl, rfl, rfl, rfl, rfl, rfl, rfl⟩
end Go.Proofs.YtnkhnnojdlgfjaaDoor.Qw
end
