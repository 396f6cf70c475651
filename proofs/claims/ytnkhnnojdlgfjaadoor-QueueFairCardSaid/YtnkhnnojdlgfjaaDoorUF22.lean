/- Parts of the proof, joined: Qp. -/
import Derived.Test.YtnkhnnojdlgfjaaDoorUF21
namespace Go.Proofs.YtnkhnnojdlgfjaaDoor.Qu
open Go Go.RowKit Go.Proofs Go.Proofs.YtnkhnnojdlgfjaaDoor Go.Proofs.YtnkhnnojdlgfjaaDoor.Tr Go.Proofs.YtnkhnnojdlgfjaaDoor.Tk Go.Proofs.YtnkhnnojdlgfjaaDoor.Tm
set_option linter.unusedVariables false
structure QJ (n : Nat) (q : Q) (L : List K) : Prop where
  tr : J q.mn n q.t L
  len : q.ws.length = n
  c1 : -1 ≤ q.cur
  c2 : q.cur < n
  v0 : q.cur = -1 → q.v = 0
  out : q.cur ≠ -1 → inA q.t q.cur = false
  wt : ∀ i, i < n → okI q i = true
  sum : sumA q.ws 0 = q.load
  near : ∀ k ∈ keysA q, farA q.mn k = false
theorem QJ.right {n : Nat} {q : Q} {L : List K} (h : QJ n q L) : rightQ q = true := by
  have hl := h.tr.len
  unfold rightQ okT okC okW
  simp only [Bool.and_eq_true, decide_eq_true_eq, beq_iff_eq, Bool.not_eq_true', List.all_eq_true, List.mem_range]
  refine ⟨⟨by rw [h.len, hl], h.c1, by rw [hl]; exact h.c2, h.tr.right⟩, ?_, ?_, h.sum, ?_⟩
  · by_cases c : q.cur = -1
    · rw [if_pos c]; simp [h.v0 c]
    · rw [if_neg c]; simp [h.out c]
  · intro i hi
    exact h.wt i (by rw [← h.len]; exact hi)
  · rw [List.any_eq_false]
    intro k hk
    simp [h.near k hk]
theorem right_QJ {q : Q} (h : rightQ q = true) : ∃ L, QJ q.t.ns.length q L := by
  unfold rightQ okT okC okW at h
  simp only [Bool.and_eq_true, decide_eq_true_eq, beq_iff_eq, Bool.not_eq_true', List.all_eq_true, List.mem_range] at h
  obtain ⟨⟨h1, h2, h3, h4⟩, h5, h6, h7, h8⟩ := h
  obtain ⟨a, ha, hs⟩ := right_RT h4
  refine ⟨_, ⟨⟨a, ha, rfl⟩, hs, rfl⟩, h1, h2, h3, ?_, ?_, fun i hi => h6 i (by rw [h1]; exact hi), h7, ?_⟩
  · intro c
    rw [if_pos c] at h5
    simpa using h5
  · intro c
    rw [if_neg c] at h5
    simpa using h5
  · intro k hk
    rw [List.any_eq_false] at h8
    simpa using h8 k hk
theorem J.mem {mn : Int} {n : Nat} {t : St} {L : List K} (h : J mn n t L) {id : Int} (h0 : 0 ≤ id) : (∃ x ∈ L, x.2 = id) ↔ inA t id = true := by
  obtain ⟨a, h1, rfl⟩ := h.ex
  exact mem_keys h1.whole h0
theorem J.rng {mn : Int} {n : Nat} {t : St} {L : List K} (h : J mn n t L) {x : K} (hx : x ∈ L) : 0 ≤ x.2 ∧ x.2 < n := by
  obtain ⟨a, h1, rfl⟩ := h.ex
  obtain ⟨z, hz, rfl⟩ := List.mem_map.1 hx
  have := h1.whole.lay.lt z hz
  have hl := h.len
  exact ⟨Int.natCast_nonneg _, by show (z : Int) < n; omega⟩
theorem J.re {mn mn' : Int} {n : Nat} {t : St} {L : List K} (h : J mn n t L) (k : SS mn' L) : J mn' n t L := ⟨h.ex, k, h.len⟩
theorem sorted_perm {mn : Int} : ∀ {a b : List K}, SS mn a → SS mn b → a.Perm b → a = b
  | [], b, _, _, h => (h.symm.eq_nil).symm
  | x :: s, [], _, _, h => absurd h.eq_nil (by simp)
  | x :: s, y :: t, ha, hb, h => by
    have e : x = y := by
      rcases List.mem_cons.1 (h.subset List.mem_cons_self) with e | hx
      · exact e
      · rcases List.mem_cons.1 (h.symm.subset List.mem_cons_self) with e | hy
        · exact e.symm
        · exact absurd ((List.pairwise_cons.1 ha.pw).1 y hy) (lt_asymm ((List.pairwise_cons.1 hb.pw).1 x hx))
    subst e
    rw [sorted_perm ⟨(List.pairwise_cons.1 ha.pw).2, (List.pairwise_cons.1 ha.nd).2⟩ ⟨(List.pairwise_cons.1 hb.pw).2, (List.pairwise_cons.1 hb.nd).2⟩ ((List.perm_cons x).1 h)]
theorem mem_ins {mn : Int} {L : List K} {k x : K} : x ∈ ins mn L k ↔ x = k ∨ x ∈ L := by
  rw [(ins_perm mn k L).mem_iff, List.mem_cons]
theorem keys_eq {n : Nat} {q : Q} {L : List K} (h : J q.mn n q.t L) : keysA q = if q.cur = -1 then L else ins q.mn L (q.v, q.cur) := by
  unfold keysA
  rw [h.walk]
theorem noCur {n : Nat} {q : Q} {L : List K} (h : J q.mn n q.t L) (h0 : 0 ≤ q.cur) (ho : inA q.t q.cur = false) : ∀ x ∈ L, x.2 ≠ q.cur := fun x hx e => by
  have := (J.mem h h0).1 ⟨x, hx, e⟩
  rw [ho] at this
  cases this
theorem QJ.no {n : Nat} {q : Q} {L : List K} (h : QJ n q L) (hc : q.cur ≠ -1) : ∀ x ∈ L, x.2 ≠ q.cur := noCur h.tr (by have := h.c1; omega) (h.out hc)
theorem QJ.ss {n : Nat} {q : Q} {L : List K} (h : QJ n q L) : SS q.mn (keysA q) := by
  rw [keys_eq h.tr]
  by_cases c : q.cur = -1
  · rw [if_pos c]; exact h.tr.ss
  · rw [if_neg c]; exact ins_SS h.tr.ss (h.no c)
theorem QJ.here {n : Nat} {q : Q} {L : List K} (h : QJ n q L) {id : Int} (h0 : 0 ≤ id) : hereA q id = true ↔ q.cur = id ∨ ∃ x ∈ L, x.2 = id := by
  unfold hereA
  rw [Bool.or_eq_true, beq_iff_eq, J.mem h.tr h0]
theorem QJ.keys_mem {n : Nat} {q : Q} {L : List K} (h : QJ n q L) {id : Int} (h0 : 0 ≤ id) : hereA q id = true ↔ ∃ x ∈ keysA q, x.2 = id := by
  rw [h.here h0, keys_eq h.tr]
  by_cases c : q.cur = -1
  · rw [if_pos c]
    constructor
    · rintro (e | e)
      · omega
      · exact e
    · exact Or.inr
  · rw [if_neg c]
    constructor
    · rintro (rfl | ⟨x, hx, e⟩)
      · exact ⟨_, mem_ins.2 (Or.inl rfl), rfl⟩
      · exact ⟨x, mem_ins.2 (Or.inr hx), e⟩
    · rintro ⟨x, hx, e⟩
      rcases mem_ins.1 hx with rfl | hx
      · exact Or.inl e
      · exact Or.inr ⟨x, hx, e⟩
theorem okAt_iff {q : Q} {i : Nat} : okI q i = true ↔ hereA q (i : Int) = weighedA (q.ws.getD i 0) ∧ (hereA q (i : Int) = true ∨ q.ws.getD i 0 = 0) := by
  unfold okI
  simp only [Bool.and_eq_true, beq_iff_eq, Bool.or_eq_true]
theorem w64u (x : Int) : IntKind.u64.wrap x = x % 18446744073709551616 := w64 x
theorem wr64 (x : Int) : wrap64 x = (x + 9223372036854775808) % 18446744073709551616 - 9223372036854775808 := by
  unfold wrap64
  rfl
theorem lag_eq (mn v : Int) : lagf mn v = (v - mn + 9223372036854775808) % 18446744073709551616 - 9223372036854775808 := by
  unfold lagf
  rw [wr64, w64u]
  omega
theorem far_iff {mn : Int} {k : K} : farA mn k = false ↔ -1125899906842624 ≤ lagf mn k.1 ∧ lagf mn k.1 ≤ 1125899906842624 := by
  unfold farA
  simp only [Bool.or_eq_false_iff, decide_eq_false_iff_not]
  omega
theorem lag_at (mn g : Int) (h1 : -1125899906842624 ≤ g) (h2 : g ≤ 1125899906842624) : lagf mn (atA mn g) = g := by
  unfold atA
  rw [lag_eq, w64u, w64u]
  omega
theorem clamp_in (x lo hi : Int) (h : lo ≤ hi) : lo ≤ clampA x lo hi ∧ clampA x lo hi ≤ hi := by
  unfold clampA
  repeat' split
  all_goals omega
theorem clamp_id (x lo hi : Int) (h : lo ≤ x) (k : x ≤ hi) : clampA x lo hi = x := by
  unfold clampA
  repeat' split
  all_goals omega
theorem later_lag {mn v x : Int} (h1 : -1125899906842624 ≤ lagf mn v) (h2 : lagf mn v ≤ 1125899906842624) (h3 : -1125899906842624 ≤ lagf mn x) (h4 : lagf mn x ≤ 1125899906842624) :
    lagf (laterA mn v) x = if 0 < lagf mn v then lagf mn x - lagf mn v else lagf mn x := by
  unfold laterA beforeA
  simp only [Bool.and_eq_true, bne_iff_ne, decide_eq_true_eq, w64u]
  rw [lag_eq] at h1 h2 h3 h4
  split <;> split <;> simp only [lag_eq] at * <;> omega
structure Nr (mn v : Int) (l : List K) : Prop where
  v1 : -1125899906842624 ≤ lagf mn v
  v2 : lagf mn v ≤ 1125899906842624
  al : ∀ x ∈ l, lagf mn v ≤ lagf mn x.1 ∧ lagf mn x.1 ≤ 1125899906842624
theorem Nr.lag {mn v : Int} {l : List K} (h : Nr mn v l) {x : K} (hx : x ∈ l) : lagf (laterA mn v) x.1 = if 0 < lagf mn v then lagf mn x.1 - lagf mn v else lagf mn x.1 :=
  later_lag h.v1 h.v2 (by have := h.al x hx; have := h.v1; omega) (h.al x hx).2
theorem Nr.cv {mn v : Int} {l : List K} (h : Nr mn v l) {x y : K} (hx : x ∈ l) (hy : y ∈ l) : cvf (laterA mn v) x y < 0 ↔ cvf mn x y < 0 := by
  rw [cv_lt, cv_lt, h.lag hx, h.lag hy]
  split <;> omega
theorem Nr.far {mn v : Int} {l : List K} (h : Nr mn v l) {x : K} (hx : x ∈ l) : farA (laterA mn v) x = false := by
  rw [far_iff, h.lag hx]
  have := h.al x hx
  have := h.v1
  have := h.v2
  split <;> omega
theorem pw_re {P R : K → K → Prop} : ∀ {l : List K}, (∀ x ∈ l, ∀ y ∈ l, P x y → R x y) → l.Pairwise P → l.Pairwise R
  | [], _, _ => .nil
  | x :: t, h, k => by
    rw [List.pairwise_cons] at k ⊢
    exact ⟨fun y hy => h x List.mem_cons_self y (List.mem_cons_of_mem _ hy) (k.1 y hy), pw_re (fun a ha b hb => h a (List.mem_cons_of_mem _ ha) b (List.mem_cons_of_mem _ hb)) k.2⟩
theorem Nr.ss {mn v : Int} {l : List K} (h : Nr mn v l) (s : SS mn l) : SS (laterA mn v) l := ⟨pw_re (fun x hx y hy k => (h.cv hx hy).2 k) s.pw, s.nd⟩
theorem Nr.ins {mn v : Int} {l : List K} {k : K} (h : Nr mn v (k :: l)) : ∀ {L : List K}, (∀ x ∈ L, x ∈ l) → ins (laterA mn v) L k = ins mn L k
  | [], _ => by rw [ins_nil, ins_nil]
  | x :: t, hL => by
    rw [ins_cons, ins_cons, Nr.ins h (fun y hy => hL y (List.mem_cons_of_mem _ hy))]
    have e := h.cv (x := k) (y := x) List.mem_cons_self (List.mem_cons_of_mem _ (hL x List.mem_cons_self))
    by_cases c : cvf mn k x < 0
    · rw [if_pos c, if_pos (e.2 c)]
    · rw [if_neg c, if_neg (fun d => c (e.1 d))]
theorem nr_first {mn : Int} {k : K} {R : List K} (s : SS mn (k :: R)) (h : ∀ x ∈ k :: R, farA mn x = false) : Nr mn k.1 (k :: R) := by
  have hk := far_iff.1 (h k List.mem_cons_self)
  refine ⟨hk.1, hk.2, fun x hx => ?_⟩
  have hx2 := far_iff.1 (h x hx)
  refine ⟨?_, hx2.2⟩
  rcases List.mem_cons.1 hx with rfl | hx
  · exact Int.le_refl _
  · have := (List.pairwise_cons.1 s.pw).1 x hx
    rw [cv_lt] at this
    omega
theorem up_QJ {n : Nat} {q : Q} {L : List K} (h : QJ n q L) : QJ n (upA q) L ∧ keysA (upA q) = keysA q ∧ upA q = { q with mn := (upA q).mn } ∧ ∀ k R, keysA q = k :: R → (upA q).mn = laterA q.mn k.1 ∧ Nr q.mn k.1 (k :: R) := by
  have hk := keys_eq h.tr
  have hs := h.ss
  have hn := h.near
  cases hK : keysA q with
  | nil =>
    have e : upA q = q := by unfold upA; rw [hK]
    rw [e]
    exact ⟨h, hK, rfl, fun k R e => by cases e⟩
  | cons k R =>
    have e : upA q = { q with mn := laterA q.mn k.1 } := by unfold upA; rw [hK]
    rw [hK] at hs hn hk
    have hN := nr_first hs hn
    have hsub : ∀ x ∈ L, x ∈ k :: R := fun x hx => by
      rw [hk]
      split
      · exact hx
      · exact mem_ins.2 (Or.inr hx)
    have hJ : J (laterA q.mn k.1) n q.t L := J.re h.tr (by
      have hN2 : Nr q.mn k.1 L := ⟨hN.v1, hN.v2, fun x hx => hN.al x (hsub x hx)⟩
      exact hN2.ss h.tr.ss)
    have hkk : keysA { q with mn := laterA q.mn k.1 } = k :: R := by
      rw [keys_eq (q := { q with mn := laterA q.mn k.1 }) hJ, hk]
      show (if q.cur = -1 then L else _) = _
      by_cases c : q.cur = -1
      · rw [if_pos c, if_pos c]
      · rw [if_neg c, if_neg c]
        rw [if_neg c] at hk
        have hN3 : Nr q.mn k.1 ((q.v, q.cur) :: L) := ⟨hN.v1, hN.v2, fun x hx => hN.al x (by
          rcases List.mem_cons.1 hx with rfl | hx
          · rw [hk]; exact mem_ins.2 (Or.inl rfl)
          · exact hsub x hx)⟩
        exact hN3.ins (fun x hx => hx)
    rw [e]
    refine ⟨⟨hJ, h.len, h.c1, h.c2, h.v0, h.out, h.wt, h.sum, fun x hx => ?_⟩, hkk, rfl, fun k' R' e => ?_⟩
    · rw [hkk] at hx
      exact hN.far hx
    · obtain ⟨rfl, rfl⟩ := List.cons.inj e
      exact ⟨rfl, hN⟩
theorem set_at {l : List Int} {i : Nat} {w : Int} (h : i < l.length) (j : Nat) : (l.set i w).getD j 0 = if j = i then w else l.getD j 0 := by
  rw [List.getD_eq_getElem?_getD, List.getD_eq_getElem?_getD, List.getElem?_set]
  by_cases e : i = j
  · subst e
    rw [if_pos rfl, if_pos rfl, if_pos h]
    rfl
  · rw [if_neg e, if_neg (fun h => e h.symm)]
theorem wr_wr (a b : Int) : wrap64 (wrap64 a + b) = wrap64 (a + b) := by
  rw [wr64, wr64, wr64]; omega
theorem sum_wr : ∀ (l : List Int) (s d : Int), sumA l (wrap64 (s + d)) = wrap64 (sumA l (wrap64 s) + d)
  | [], s, d => by unfold sumA; rw [wr_wr]
  | w :: l, s, d => by
    unfold sumA
    have e1 : wrap64 (wrap64 (s + d) + w) = wrap64 (s + w + d) := by rw [wr_wr]; congr 1; omega
    have e2 : wrap64 (wrap64 s + w) = wrap64 (s + w) := wr_wr _ _
    rw [e1, e2]
    exact sum_wr l (s + w) d
theorem sum_set : ∀ (l : List Int) (i : Nat) (w s : Int), i < l.length → wrap64 s = s → sumA (l.set i w) s = wrap64 (sumA l s + (w - l.getD i 0))
  | [], i, w, s, h, _ => by simp at h
  | x :: l, 0, w, s, _, hs => by
    show sumA l (wrap64 (s + w)) = wrap64 (sumA l (wrap64 (s + x)) + (w - x))
    rw [show s + w = (s + x) + (w - x) by omega]
    exact sum_wr l (s + x) (w - x)
  | x :: l, i + 1, w, s, h, hs => by
    show sumA (l.set i w) (wrap64 (s + x)) = wrap64 (sumA l (wrap64 (s + x)) + (w - l.getD i 0))
    exact sum_set l i w _ (by simpa using h) (by rw [wr64, wr64]; omega)
theorem w0 : wrap64 0 = 0 := by rw [wr64]; rfl
theorem sum_weigh {q : Q} (h : sumA q.ws 0 = q.load) {id : Int} (hi : id.toNat < q.ws.length) (w : Int) : sumA (weighA q id w).ws 0 = (weighA q id w).load := by
  show sumA (q.ws.set id.toNat w) 0 = wrap64 (q.load + wrap64 (w - q.ws.getD id.toNat 0))
  rw [sum_set _ _ _ _ hi w0, h, Int.add_comm q.load (wrap64 _), wr_wr]
  congr 1
  omega
theorem weigh_QJ {n : Nat} {q : Q} {L : List K} {x : Q} {M : List K} (h : QJ n q L) {id w : Int} (h0 : 0 ≤ id) (h1 : id < n)
    (tr : J q.mn n x.t M) (hmn : x.mn = q.mn) (hws : x.ws = q.ws) (hld : x.load = q.load) (c1 : -1 ≤ x.cur) (c2 : x.cur < n) (v0 : x.cur = -1 → x.v = 0) (out : x.cur ≠ -1 → inA x.t x.cur = false)
    (ho : ∀ i : Nat, (i : Int) ≠ id → hereA x i = hereA q i) (hi : hereA x id = weighedA w) (hz : hereA x id = true ∨ w = 0)
    (near : ∀ k ∈ keysA x, farA q.mn k = false) : QJ n (weighA x id w) M := by
  have hl : id.toNat < x.ws.length := by rw [hws, h.len]; omega
  refine ⟨by show J x.mn n x.t M; rw [hmn]; exact tr, by show (x.ws.set _ _).length = n; rw [List.length_set, hws, h.len], c1, c2, v0, out, fun i hn => ?_, sum_weigh (by rw [hws, hld]; exact h.sum) hl w, by show ∀ k ∈ keysA x, farA x.mn k = false; rw [hmn]; exact near⟩
  refine okAt_iff.2 ?_
  show hereA x (i : Int) = weighedA ((x.ws.set id.toNat w).getD i 0) ∧ (hereA x (i : Int) = true ∨ (x.ws.set id.toNat w).getD i 0 = 0)
  rw [set_at hl]
  by_cases e : i = id.toNat
  · rw [if_pos e, show (i : Int) = id by omega]
    exact ⟨hi, hz⟩
  · rw [if_neg e, ho i (by omega), hws]
    exact okAt_iff.1 (h.wt i hn)
theorem bool_ext {a b : Bool} (h : a = true ↔ b = true) : a = b := by
  cases a <;> cases b <;> simp_all
theorem enter_QJ {n : Nat} {q : Q} {L : List K} (h : QJ n q L) {id w : Int} (lag : Int) (h0 : 0 ≤ id) (h1 : id < n) (hw : weighedA w = true) (hh : hereA q id = false) :
    ∃ q', enterA q id w lag = some (q', 0) ∧ QJ n q' (ins q.mn L (atA q.mn (clampA lag (-1048576) 1125899906842624), id)) ∧ q'.cur = q.cur ∧ q'.v = q.v ∧ q'.mn = q.mn ∧ q'.ws = q.ws.set id.toNat w ∧ (keysA q').Perm ((atA q.mn (clampA lag (-1048576) 1125899906842624), id) :: keysA q) ∧ q'.load = wrap64 (q.load + wrap64 (w - q.ws.getD id.toNat 0)) := by
  have hno : q.cur ≠ id ∧ ∀ x ∈ L, x.2 ≠ id := by
    refine ⟨fun e => ?_, fun x hx e => ?_⟩
    · rw [(h.here h0).2 (Or.inl e)] at hh; cases hh
    · rw [(h.here h0).2 (Or.inr ⟨x, hx, e⟩)] at hh; cases hh
  have hcl := clamp_in lag (-1048576) 1125899906842624 (by omega)
  have hla := lag_at q.mn _ (by omega) hcl.2
  generalize hg : atA q.mn (clampA lag (-1048576) 1125899906842624) = at_ at hla ⊢
  have hkn : knownA q id = true := by
    unfold knownA
    rw [Bool.and_eq_true, decide_eq_true_iff, decide_eq_true_iff, h.len]
    exact ⟨h0, h1⟩
  rcases ins_J (k := (at_, id)) h.tr h0 h1 with ⟨t', e1, e2, e3⟩ | ⟨r, e1, e2, x, hx, e⟩
  · have hins : (ins q.mn L (at_, id)).Perm ((at_, id) :: L) := ins_perm _ _ _
    have hP : (keysA { q with t := t' }).Perm ((at_, id) :: keysA q) := by
      rw [keys_eq (q := { q with t := t' }) e2, keys_eq h.tr]
      show (if q.cur = -1 then _ else _ : List K).Perm _
      by_cases c : q.cur = -1
      · rw [if_pos c, if_pos c]; exact hins
      · rw [if_neg c, if_neg c]
        exact ((ins_perm _ _ _).trans ((hins.cons _).trans (List.Perm.swap _ _ _))).trans ((ins_perm _ _ _).symm.cons _)
    refine ⟨weighA { q with t := t' } id w, ?_, ?_, rfl, rfl, rfl, rfl, hP, rfl⟩
    · unfold enterA
      rw [if_neg (by rw [h.right]; simp), if_neg (by rw [hkn, hw]; simp), if_neg (by rw [hh]; simp), hg, e1]
      rfl
    · refine weigh_QJ (x := { q with t := t' }) h h0 h1 e2 rfl rfl rfl h.c1 h.c2 h.v0 (fun c => ?_) (fun i hi => bool_ext ?_) ?_ (Or.inl ?_) (fun k hk => ?_)
      · have hc0 : 0 ≤ q.cur := by have := h.c1; have : q.cur ≠ -1 := c; omega
        refine Bool.eq_false_iff.2 fun e => ?_
        obtain ⟨x, hx, e⟩ := (J.mem e2 hc0).2 e
        rcases mem_ins.1 hx with rfl | hx
        · exact hno.1 e.symm
        · exact h.no c x hx e
      · unfold hereA
        rw [Bool.or_eq_true, Bool.or_eq_true, ← J.mem e2 (Int.natCast_nonneg i), ← J.mem h.tr (Int.natCast_nonneg i)]
        refine or_congr Iff.rfl ⟨?_, ?_⟩
        · rintro ⟨x, hx, e⟩
          rcases mem_ins.1 hx with rfl | hx
          · exact absurd e.symm hi
          · exact ⟨x, hx, e⟩
        · rintro ⟨x, hx, e⟩
          exact ⟨x, mem_ins.2 (Or.inr hx), e⟩
      · rw [hw]
        unfold hereA
        rw [Bool.or_eq_true, ← J.mem e2 h0]
        exact Or.inr ⟨_, mem_ins.2 (Or.inl rfl), rfl⟩
      · unfold hereA
        rw [Bool.or_eq_true, ← J.mem e2 h0]
        exact Or.inr ⟨_, mem_ins.2 (Or.inl rfl), rfl⟩
      · rcases List.mem_cons.1 (hP.mem_iff.1 hk) with rfl | hk
        · rw [far_iff]
          show -1125899906842624 ≤ lagf q.mn at_ ∧ lagf q.mn at_ ≤ 1125899906842624
          rw [hla]; omega
        · exact h.near k hk
  · exact absurd e (hno.2 x hx)
theorem ins_front {mn : Int} {k : K} {R : List K} (h : ∀ x ∈ R, cvf mn k x < 0) : ins mn R k = k :: R := by
  cases R with
  | nil => exact ins_nil _ _
  | cons x t => rw [ins_cons, if_pos (h x List.mem_cons_self)]
theorem back_QJ {n : Nat} {q : Q} {L : List K} (h : QJ n q L) : ∃ t', backA q = some { q with t := t', cur := -1, v := 0 } ∧ J q.mn n t' (keysA q) := by
  unfold backA
  rw [keys_eq h.tr]
  by_cases c : q.cur = -1
  · rw [if_pos c, if_pos c]
    refine ⟨q.t, ?_, h.tr⟩
    have hv := h.v0 c
    cases q
    simp only at c hv
    subst c hv
    rfl
  · rw [if_neg c, if_neg c]
    have h0 : 0 ≤ q.cur := by have := h.c1; omega
    rcases ins_J (k := (q.v, q.cur)) h.tr h0 h.c2 with ⟨t', e1, e2, e3⟩ | ⟨r, e1, e2, x, hx, e⟩
    · rw [e1]
      exact ⟨t', rfl, e2⟩
    · exact absurd e (h.no c x hx)
theorem keys_rng {n : Nat} {q : Q} {L : List K} (h : QJ n q L) {x : K} (hx : x ∈ keysA q) : 0 ≤ x.2 ∧ x.2 < n := by
  rw [keys_eq h.tr] at hx
  by_cases c : q.cur = -1
  · rw [if_pos c] at hx; exact J.rng h.tr hx
  · rw [if_neg c] at hx
    rcases mem_ins.1 hx with rfl | hx
    · exact ⟨by have := h.c1; show 0 ≤ q.cur; omega, h.c2⟩
    · exact J.rng h.tr hx
theorem pick_QJ {n : Nat} {q : Q} {L : List K} (h : QJ n q L) {k : K} {R : List K} (hK : keysA q = k :: R) :
    ∃ q', pickA q = some (q', k.2, 0) ∧ QJ n q' R ∧ q'.cur = k.2 ∧ q'.v = k.1 ∧ q'.mn = laterA q.mn k.1 ∧ q'.ws = q.ws ∧ q'.load = q.load ∧ keysA q' = k :: R ∧ Nr q.mn k.1 (k :: R)
    ∧ ∃ t1 t2, backA q = some { q with t := t1, cur := -1, v := 0 } ∧ J q.mn n t1 (k :: R) ∧ delF t1 q.mn k.2 = some (t2, 0) ∧ J q.mn n t2 R ∧ QJ n { q with t := t2, cur := k.2, v := k.1 } R ∧ q' = upA { q with t := t2, cur := k.2, v := k.1 } := by
  obtain ⟨t1, b1, b2⟩ := back_QJ h
  have hr := keys_rng h (x := k) (by rw [hK]; exact List.mem_cons_self)
  have hs := h.ss
  have hn := h.near
  rw [hK] at b2 hs hn
  have hfr : ∀ x ∈ R, cvf q.mn k x < 0 := (List.pairwise_cons.1 hs.pw).1
  have hne : ∀ x ∈ R, x.2 ≠ k.2 := fun x hx e => (List.pairwise_cons.1 hs.nd).1 x hx e.symm
  rcases del_J (id := k.2) b2 hr.1 hr.2 with ⟨t2, e1, e2, _⟩ | ⟨r, e1, e2, e3⟩
  · rw [del_cons, if_pos rfl] at e2
    have hkk : keysA { q with t := t2, cur := k.2, v := k.1 } = k :: R := by
      rw [keys_eq (q := { q with t := t2, cur := k.2, v := k.1 }) e2]
      show (if k.2 = -1 then R else ins q.mn R (k.1, k.2)) = _
      rw [if_neg (by omega)]
      exact ins_front hfr
    have hq : QJ n { q with t := t2, cur := k.2, v := k.1 } R := by
      refine ⟨e2, h.len, by show -1 ≤ k.2; omega, hr.2, fun c => ?_, fun c => ?_, fun i hi => ?_, h.sum, by rw [hkk]; exact hn⟩
      · have : k.2 = -1 := c
        omega
      · show inA t2 k.2 = false
        refine Bool.eq_false_iff.2 fun e => ?_
        obtain ⟨x, hx, e⟩ := (J.mem e2 hr.1).2 e
        exact hne x hx e
      · have e : hereA { q with t := t2, cur := k.2, v := k.1 } (i : Int) = hereA q (i : Int) := bool_ext (by
          rw [h.keys_mem (Int.natCast_nonneg i), hK]
          unfold hereA
          rw [Bool.or_eq_true, ← J.mem e2 (Int.natCast_nonneg i), beq_iff_eq]
          show k.2 = (i : Int) ∨ _ ↔ _
          constructor
          · rintro (e | ⟨x, hx, e⟩)
            · exact ⟨k, List.mem_cons_self, e⟩
            · exact ⟨x, List.mem_cons_of_mem _ hx, e⟩
          · rintro ⟨x, hx, e⟩
            rcases List.mem_cons.1 hx with rfl | hx
            · exact Or.inl e
            · exact Or.inr ⟨x, hx, e⟩)
        have := okAt_iff.1 (h.wt i hi)
        refine okAt_iff.2 ?_
        rw [e]
        exact this
    obtain ⟨u1, u2, u3, u4⟩ := up_QJ hq
    obtain ⟨u5, u6⟩ := u4 k R hkk
    refine ⟨upA { q with t := t2, cur := k.2, v := k.1 }, ?_, u1, by rw [u3], by rw [u3], u5, by rw [u3], by rw [u3], u2.trans hkk, u6, t1, t2, b1, b2, e1, e2, hq, rfl⟩
    unfold pickA
    rw [if_neg (by rw [h.right]; simp), if_neg (by rw [hK]; simp), b1]
    show Option.map _ (delF t1 q.mn (firstK (walkA t1)).2) = _
    rw [b2.walk]
    show Option.map _ (delF t1 q.mn k.2) = _
    rw [e1]
    rfl
  · exact absurd rfl (e3 k List.mem_cons_self)
end Go.Proofs.YtnkhnnojdlgfjaaDoor.Qu
