/- Parts of the proof, joined: TmP, PureTreeTells. -/
import Derived.Test.YtfapmcpmfeigbaaDoorUA19
import Derived.Test.YtfapmcpmfeigbaaDoorUA17
import Derived.Test.YtfapmcpmfeigbaaDoorUA32
import Derived.Test.YtfapmcpmfeigbaaDoorUA33
import Derived.Test.YtfapmcpmfeigbaaDoorUA34
import Derived.Test.YtfapmcpmfeigbaaDoorUA35
import Derived.Test.YtfapmcpmfeigbaaDoorUA36
section
namespace Go.Proofs.YtfapmcpmfeigbaaDoor.Tm
open Go.RowKit Go Go.Proofs Go.Proofs.YtfapmcpmfeigbaaDoor Go.Proofs.YtfapmcpmfeigbaaDoor.Tr Go.Proofs.YtfapmcpmfeigbaaDoor.Tk Go.Proofs.YtfapmcpmfeigbaaDoorW.PrintWords Go.Proofs.YtfapmcpmfeigbaaDoorW.PrintLast Go.Proofs.YtfapmcpmfeigbaaDoorW.PrintMore
set_option linter.unusedVariables false
set_option linter.unusedSimpArgs false
theorem cv_lt {mn : Int} {x y : K} : cvf mn x y < 0 ↔ lagf mn x.1 < lagf mn y.1 ∨ lagf mn x.1 = lagf mn y.1 ∧ x.2 < y.2 := by
  unfold cvf
  repeat' split
  all_goals omega
theorem lt_trans {mn : Int} {x y z : K} (h : cvf mn x y < 0) (k : cvf mn y z < 0) : cvf mn x z < 0 := by
  rw [cv_lt] at *
  omega
structure SS (mn : Int) (l : List K) : Prop where
  pw : l.Pairwise (fun x y => cvf mn x y < 0)
  nd : l.Pairwise (fun x y => x.2 ≠ y.2)
theorem sortedK_iff {mn : Int} {l : List K} : sortedK (cvf mn) l = true ↔ SS mn l := by
  unfold sortedK
  rw [decide_eq_true_iff]
  constructor
  · intro h
    have hlt : ∀ j i, i < j → j < l.length → cvf mn (gt l i) (gt l j) < 0 := by
      intro j
      induction j with
      | zero => intro i hi; omega
      | succ j ih =>
        intro i hi hj
        have h1 := (h (j + 1) hj).1
        rcases h1 with h1 | h1
        · omega
        · rw [show j + 1 - 1 = j by omega] at h1
          by_cases e : i = j
          · subst e; exact h1
          · exact lt_trans (ih i (by omega) (by omega)) h1
    refine ⟨List.pairwise_iff_getElem.2 fun i j hi hj hij => ?_, List.pairwise_iff_getElem.2 fun i j hi hj hij => ?_⟩
    · have := hlt j i hij hj
      rwa [gt_of l i hi, gt_of l j hj] at this
    · have := (h j hj).2 i hij
      rwa [gt_of l i hi, gt_of l j hj] at this
  · intro h i hi
    refine ⟨?_, fun j hj => ?_⟩
    · by_cases e : i = 0
      · exact Or.inl e
      · refine Or.inr ?_
        have := List.pairwise_iff_getElem.1 h.pw (i - 1) i (by omega) hi (by omega)
        rwa [gt_of l (i - 1) (by omega), gt_of l i hi]
    · have := List.pairwise_iff_getElem.1 h.nd j i (by omega) hi hj
      rwa [gt_of l j (by omega), gt_of l i hi]
theorem blA_rb : ∀ {a : T}, (blA a).2 = true → RB a (blA a).1.toNat
  | .E, _ => rfl
  | .B c l x r, h => by
    have p1 := (blA_le l).1
    unfold blA at h ⊢
    split at h
    · cases h
    · rename_i h1
      split at h
      · cases h
      · rename_i h2
        split at h
        · cases h
        · rename_i h3
          split at h
          · cases h
          · rename_i h4
            rw [if_neg h1, if_neg h2, if_neg h3, if_neg h4]
            have e1 := blA_rb (a := l) (by simpa using h1)
            have e2 := blA_rb (a := r) (by simpa using h2)
            have h3' : (blA l).1 = (blA r).1 := by simpa using h3
            rw [← h3'] at e2
            refine ⟨fun hc => ⟨?_, ?_⟩, (blA l).1.toNat, e1, e2, ?_⟩
            · cases hl : l.red with
              | false => rfl
              | true => exact absurd ⟨hc, Or.inl hl⟩ h4
            · cases hl : r.red with
              | false => rfl
              | true => exact absurd ⟨hc, Or.inr hl⟩ h4
            · cases c <;> simp <;> omega
theorem rb_blA : ∀ {a : T} {n : Nat}, RB a n → blA a = ((n : Int), true)
  | .E, n, h => by
    have h : n = 0 := h
    subst h; rfl
  | .B c l x r, n, ⟨h1, m, h2, h3, h4⟩ => by
    unfold blA
    rw [rb_blA h2, rb_blA h3, if_neg (by simp), if_neg (by simp), if_neg (by simp)]
    cases c with
    | true =>
      obtain ⟨a1, a2⟩ := h1 rfl
      rw [if_neg (by rw [a1, a2]; simp), if_pos rfl]
      subst h4; rfl
    | false =>
      rw [if_neg (by simp), if_neg (by simp)]
      subst h4; rfl
structure RT (t : St) (a : T) : Prop where
  whole : Whole t a
  red : a.red = false
  rb : ∃ m, RB a m
  len : t.ns.length ≤ 64
variable {t : St}
theorem RT.ord {a : T} (h : RT t a) : ordA t = some a := ordA_iff.2 ⟨h.len, h.whole⟩
theorem RT.right {a : T} {mn : Int} (h : RT t a) (k : SS mn (keysOf t a.ids)) : rightA t mn = true := by
  obtain ⟨m, hm⟩ := h.rb
  unfold rightA
  rw [h.ord]
  show (if a.red = true then false else if (blA a).2 = false then false else sortedK (cvf mn) (keysOf t a.ids)) = true
  rw [if_neg (by rw [h.red]; simp), rb_blA hm, if_neg (by simp)]
  exact sortedK_iff.2 k
theorem right_RT {mn : Int} (h : rightA t mn = true) : ∃ a, RT t a ∧ SS mn (keysOf t a.ids) := by
  obtain ⟨a, h1, h2, h3⟩ := right_whole h
  unfold rightA at h
  rw [h1] at h
  change (if a.red = true then false else if (blA a).2 = false then false else sortedK (cvf mn) (keysOf t a.ids)) = true at h
  split at h
  · cases h
  · rename_i r1
    split at h
    · cases h
    · rename_i r2
      exact ⟨a, ⟨h2, by simpa using r1, ⟨_, blA_rb (by simpa using r2)⟩, h3⟩, sortedK_iff.1 h⟩
theorem lay_inn {a : T} : ∀ {u : Option Int}, Lay t a u → ∀ z ∈ a.ids, (gn t z).inn = true := by
  induction a with
  | E => intro u _ z hz; cases hz
  | B c l x r il ir =>
    intro u ⟨h1, h2, h3, h4, h5, h6, h7, h8⟩ z hz
    rcases List.mem_append.1 hz with h | h
    · exact il h7 z h
    · rcases List.mem_cons.1 h with rfl | h
      · exact h2
      · exact ir h8 z h
theorem Whole.mem {a : T} (h : Whole t a) (z : Nat) : z ∈ a.ids ↔ (gn t z).inn = true := by
  refine ⟨lay_inn h.lay z, fun hz => ?_⟩
  by_cases hm : z ∈ a.ids
  · exact hm
  · exfalso
    by_cases hl : z < t.ns.length
    · rw [h.out z hl hm] at hz; cases hz
    · unfold gn at hz
      rw [List.getD_eq_getElem?_getD, List.getElem?_eq_none (by omega)] at hz; cases hz
theorem ins_ok {a : T} {mn : Int} {k : K} (h : RT t a) (hS : SS mn (keysOf t a.ids)) (h0 : 0 ≤ k.2) (h1 : k.2 < t.ns.length) (hi : (gn t k.2.toNat).inn = false) :
    ∃ t' a' lf rg, insA t mn k = some (t', 0) ∧ RT t' a' ∧ a.ids = lf ++ rg ∧ a'.ids = lf ++ k.2.toNat :: rg ∧ (∀ x ∈ lf, ltA t mn k x = false) ∧ (∀ x ∈ rg, ltA t mn k x = true) ∧ t'.ns.length = t.ns.length ∧ (∀ z, z ≠ k.2.toNat → (gn t' z).v = (gn t z).v) ∧ (gn t' k.2.toNat).v = k.1 := by
  obtain ⟨m, hm⟩ := h.rb
  obtain ⟨id, v, rfl⟩ : ∃ (id : Nat) (v : Int), k = (v, (id : Int)) := ⟨k.2.toNat, k.1, by rw [show ((k.2.toNat : Nat) : Int) = k.2 from by omega]⟩
  simp only [Int.toNat_natCast] at *
  have hni : id ∉ a.ids := fun e => by rw [(h.whole.mem id).1 e] at hi; cases hi
  have hid : id < t.ns.length := by omega
  have hlt : a.ids.Pairwise (fun x y => ltA t mn (v, (id : Int)) x = true → ltA t mn (v, (id : Int)) y = true) := by
    have := hS.pw
    unfold keysOf at this
    rw [List.pairwise_map] at this
    refine this.imp fun {x y} hxy hx => ?_
    unfold ltA at hx ⊢
    rw [decide_eq_true_iff] at hx ⊢
    exact lt_trans hx hxy
  obtain ⟨t', lf, rg, e1, e2, e3, e4, e5, e6⟩ := put_lay (v := v) (ltA t mn (v, (id : Int))) h.whole.lay h.whole.rt h.whole.nd hm h.red hid hni hlt
  obtain ⟨A, g1, g2, g3, g4, g5⟩ := e6.ex
  have hsz : a.size < t.ns.length + 2 := by
    rw [← size_ids]
    have := nodup_len h.whole.nd (fun x hx => h.whole.lay.lt x hx)
    omega
  have hp := down_plug (ltA t mn (v, (id : Int))) a []
  change plug _ T.E = a at hp
  have hpi := plug_ids (down (ltA t mn (v, (id : Int))) a []) T.E
  rw [hp] at hpi
  change a.ids.Perm (idsC (down (ltA t mn (v, (id : Int))) a [])) at hpi
  have hup : ∀ z : Nat, (z : Int) = upC (down (ltA t mn (v, (id : Int))) a []) → z ∈ a.ids := fun z hz => by
    refine hpi.mem_iff.2 ?_
    cases hC : down (ltA t mn (v, (id : Int))) a [] with
    | nil => rw [hC] at hz; exact absurd hz (by show ¬ (z : Int) = -1; omega)
    | cons f C =>
      rw [hC] at hz
      have hz : (z : Int) = (f.x : Int) := hz
      have : z = f.x := by omega
      subst this
      simp [idsC]
  have hx : 0 ≤ upC (down (ltA t mn (v, (id : Int))) a []) → (upC (down (ltA t mn (v, (id : Int))) a [])).toNat < (sn t id (newN v)).ns.length := fun hu => by
    rw [sn_len]
    exact h.whole.lay.lt _ (hup _ (by omega))
  have hy : 0 ≤ (id : Int) → (id : Int).toNat < (sn t id (newN v)).ns.length := fun _ => by rw [sn_len]; omega
  have hgs : ∀ z, gn (sn t id (newN v)) z = if z = id then newN v else gn t z := fun z => gn_sn _ _ _ _ hid
  have hv : ∀ z, (gn t' z).v = if z = id then v else (gn t z).v := fun z => by
    rw [(e6.keeps.at_ z).1]
    change (gn (hangA (sn t id (newN v)) _ _ _) z).v = _
    rw [hang_v _ hx hy, hgs]
    split <;> rfl
  have hlen : t'.ns.length = t.ns.length := by
    rw [e6.keeps.len, hang_len]
    exact sn_len _ _ _
  have hk := hang_keeps (s := sideC (down (ltA t mn (v, (id : Int))) a [])) (S := fun z => z ∈ id :: a.ids) hx hy (fun z hz => List.mem_cons_of_mem _ (hup z hz)) (fun z hz => by rw [show z = id by omega]; exact List.mem_cons_self)
  have hids : ∀ z, z ∈ A.ids ↔ z ∈ id :: a.ids := fun z => by
    rw [g3, e1]
    simp only [List.mem_append, List.mem_cons]
    exact or_left_comm
  refine ⟨t', A, lf, rg, ?_, ⟨⟨g1, g2, ?_, fun z hz hzn => ?_⟩, g5, g4, by rw [hlen]; exact h.len⟩, e1, g3, e2, e3, hlen, fun z hz => by rw [hv, if_neg hz], by rw [hv, if_pos rfl]⟩
  · unfold insA
    rw [if_neg (by rw [h.right hS]; simp), if_neg (by show ¬ ((id : Int) < 0 ∨ (t.ns.length : Int) ≤ (id : Int) ∨ (gn t (id : Int).toNat).inn = true); rw [Int.toNat_natCast, hi]; simp; omega), e4 _ hsz]
    have := e5 (t.ns.length + 2) (by omega)
    change mendA (t.ns.length + 2) (hangA (sn t id (newN v)) _ _ _) _ = _ at this
    simp only [Int.toNat_natCast]
    rw [this]
  · rw [g3]
    refine List.perm_middle.nodup_iff.2 (List.nodup_cons.2 ⟨?_, ?_⟩)
    · rw [← e1]; exact hni
    · rw [← e1]; exact h.whole.nd
  · have hzn2 : ¬ (z ∈ id :: a.ids) := fun e => hzn ((hids z).2 e)
    rw [(e6.keeps.at_ z).2 hzn2]
    change gn (hangA (sn t id (newN v)) _ _ _) z = emp
    rw [(hk.at_ z).2 hzn2, hgs, if_neg (fun e => hzn2 (by rw [e]; exact List.mem_cons_self))]
    exact h.whole.out z (by rw [← hlen]; exact hz) (fun e => hzn2 (List.mem_cons_of_mem _ e))
theorem del_ok {a : T} {id : Nat} (h : RT t a) (hid : id ∈ a.ids) :
    ∃ t' a' lf rg, delA (t.ns.length + 2) t id = some t' ∧ RT t' a' ∧ a.ids = lf ++ id :: rg ∧ a'.ids = lf ++ rg ∧ t'.ns.length = t.ns.length ∧ ∀ z, z ≠ id → (gn t' z).v = (gn t z).v := by
  obtain ⟨m, hm⟩ := h.rb
  obtain ⟨t', e1, e2⟩ := del_lay h.whole.lay h.whole.rt h.whole.nd hm h.red hid
  obtain ⟨lf, rg, A, g1, g2, g3, g4, g5, g6⟩ := e2.ex
  refine ⟨t', A, lf, rg, e1 _ (by omega), ⟨⟨g2, g3, ?_, fun z hz hzn => ?_⟩, g6, g5, by rw [e2.len]; exact h.len⟩, g1, g4, e2.len, fun z hz => (e2.keeps z hz).1⟩
  · have := h.whole.nd
    rw [g1] at this
    rw [g4]
    exact (List.nodup_cons.1 (List.perm_middle.nodup_iff.1 this)).2
  · by_cases e : z = id
    · rw [e]; exact e2.gone
    · have hn : z ∉ a.ids := fun hm => hzn (by
        rw [g1] at hm
        rw [g4]
        simp only [List.mem_append, List.mem_cons] at hm ⊢
        rcases hm with hm | hm | hm
        · exact Or.inl hm
        · exact absurd hm e
        · exact Or.inr hm)
      rw [(e2.keeps z e).2 hn]
      exact h.whole.out z (by rw [← e2.len]; exact hz) hn
def Evt {β : Type} (g : Nat → Option β) (r : β) : Prop := ∃ K, ∀ k, K ≤ k → g k = some r
theorem Evt.step {β : Type} {g h : Nat → Option β} {r : β} (he : Evt h r) (hs : ∀ k, g (k + 1) = h k) : Evt g r := by
  obtain ⟨K, hK⟩ := he
  refine ⟨K + 1, fun k hk => ?_⟩
  obtain ⟨k, rfl⟩ : ∃ m, k = m + 1 := ⟨k - 1, by omega⟩
  rw [hs]
  exact hK k (by omega)
theorem Evt.now {β : Type} (r : β) : Evt (fun _ => some r) r := ⟨0, fun _ _ => rfl⟩
theorem ins_any {t : St} {a : T} (mn : Int) (k : K) (h : RT t a) : ∃ r, insA t mn k = some r ∧ (r.2 = 0 → ∃ a', RT r.1 a' ∧ r.1.ns.length = t.ns.length) := by
  by_cases hr : rightA t mn = false
  · exact ⟨(⟨[], 0⟩, 4), by unfold insA; rw [if_pos hr], fun e => absurd e (by decide)⟩
  · by_cases hk : k.2 < 0 ∨ (t.ns.length : Int) ≤ k.2 ∨ (gn t k.2.toNat).inn = true
    · exact ⟨(⟨[], 0⟩, 1), by unfold insA; rw [if_neg hr, if_pos hk], fun e => absurd e (by decide)⟩
    · obtain ⟨a2, h2, hS⟩ := right_RT (by simpa using hr)
      simp only [not_or] at hk
      obtain ⟨t', a', lf, rg, e1, e2, _, _, _, _, e3, _⟩ := ins_ok (k := k) h2 hS (by omega) (by omega) (by simpa using hk.2.2)
      exact ⟨_, e1, fun _ => ⟨a', e2, e3⟩⟩
end Go.Proofs.YtfapmcpmfeigbaaDoor.Tm
end
section
namespace Go.Proofs.YtfapmcpmfeigbaaDoor.QTreeTells
open Go.RowKit Go Go.Proofs Go.Proofs.YtfapmcpmfeigbaaDoor Go.Proofs.YtfapmcpmfeigbaaDoor.Tr Go.Proofs.YtfapmcpmfeigbaaDoor.Tk Go.Proofs.YtfapmcpmfeigbaaDoor.Tm Go.Proofs.YtfapmcpmfeigbaaDoorW.PrintWords Go.Proofs.YtfapmcpmfeigbaaDoorW.PrintLast
theorem same9_step {l : List S57} {a : Int} (hl : l.length ≤ 1000) : ∀ (d i : Nat), d + i = l.length → Evt (fun k => turnspitref09_Same.l0 k (i : Int) a l a l) true
  | 0, i, hi => Evt.step (Evt.now true) fun k => by rw [turnspitref09_Same.l0, if_neg (by omega)]
  | d + 1, i, hi => by
    refine Evt.step (same9_step (a := a) hl d (i + 1) (by omega)) fun k => ?_
    rw [turnspitref09_Same.l0, if_pos (by omega), if_pos (by omega), if_pos (by omega), if_neg (by simp), show wrap64 ((i : Int) + 1) = ((i + 1 : Nat) : Int) from by unfold wrap64; omega]
theorem rsame9 {l : List S57} {a : Int} (hl : l.length ≤ 1000) : Evt (fun k => turnspitref09_Same.f k a l a l) true := by
  refine Evt.step (same9_step (a := a) hl l.length 0 (by omega)) fun k => ?_
  unfold turnspitref09_Same.f
  rw [if_pos rfl, turnspitref09_Same.j0, if_neg (by simp)]
  rfl
theorem same8_step {l : List S27} (hl : l.length ≤ 1000) : ∀ (d i : Nat), d + i = l.length → Evt (fun k => turnspitref08_Same.l0 k l l (i : Int)) true
  | 0, i, hi => Evt.step (Evt.now true) fun k => by rw [turnspitref08_Same.l0, if_neg (by omega)]
  | d + 1, i, hi => by
    refine Evt.step (same8_step hl d (i + 1) (by omega)) fun k => ?_
    rw [turnspitref08_Same.l0, if_pos (by omega), if_pos (by omega), if_pos (by omega), if_neg (by simp), show wrap64 ((i : Int) + 1) = ((i + 1 : Nat) : Int) from by unfold wrap64; omega]
theorem rsame8 {l : List S27} (hl : l.length ≤ 1000) : Evt (fun k => turnspitref08_Same.f k l l) true := by
  obtain ⟨K, hK⟩ := same8_step hl l.length 0 (by omega)
  refine ⟨K, fun k hk => ?_⟩
  show turnspitref08_Same.f k l l = some true
  unfold turnspitref08_Same.f
  rw [if_pos rfl]
  exact hK k hk
theorem ins_tot (t : St) (mn : Int) (k : K) : ∃ r, insA t mn k = some r ∧ r.1.ns.length ≤ 64 := by
  by_cases hr : rightA t mn = false
  · exact ⟨(⟨[], 0⟩, 4), by unfold insA; rw [if_pos hr], Nat.zero_le _⟩
  · obtain ⟨a, ha, _⟩ := right_RT (by simpa using hr)
    obtain ⟨r, h1, h2⟩ := ins_any mn k ha
    refine ⟨r, h1, ?_⟩
    by_cases h0 : r.2 = 0
    · obtain ⟨a', _, h4⟩ := h2 h0
      rw [h4]
      exact ha.len
    · unfold insA at h1
      rw [if_neg hr] at h1
      split at h1
      · rw [← Option.some.inj h1]; exact Nat.zero_le _
      · exfalso
        apply h0
        split at h1
        · cases h1
        · split at h1
          · cases h1
          · rw [← Option.some.inj h1]
theorem del_tot (t : St) (mn : Int) (i : Int) : ∃ r, delF t mn i = some r ∧ r.1.ns.length ≤ 64 := by
  unfold delF
  by_cases hr : rightA t mn = false
  · exact ⟨(⟨[], 0⟩, 4), by rw [if_pos hr], Nat.zero_le _⟩
  · rw [if_neg hr]
    by_cases hi : i < 0 ∨ (t.ns.length : Int) ≤ i
    · exact ⟨(⟨[], 0⟩, 1), by rw [if_pos hi], Nat.zero_le _⟩
    · rw [if_neg hi]
      cases hn : (gn t i.toNat).inn with
      | false => exact ⟨(⟨[], 0⟩, 8), by rw [if_pos rfl], Nat.zero_le _⟩
      | true =>
        obtain ⟨a, ha, _⟩ := right_RT (by simpa using hr)
        have hm : i.toNat ∈ a.ids := (Whole.mem ha.whole i.toNat).2 hn
        obtain ⟨t', a', lf, rg, h1, _, _, _, h5, _⟩ := del_ok ha hm
        refine ⟨(t', 0), by rw [if_neg (by simp), h1], ?_⟩
        rw [h5]
        exact ha.len
theorem walk_le (t : St) : (walkA t).length ≤ 64 := by
  unfold walkA
  cases h : ordA t with
  | none => exact Nat.zero_le _
  | some a =>
    show (keysOf t a.ids).length ≤ 64
    have hw := ordA_iff.1 h
    unfold keysOf
    rw [List.length_map]
    exact Nat.le_trans (nodup_len hw.2.nd (fun x hx => hw.2.lay.lt x hx)) hw.1
theorem tells_pure (a0 : Int) (l : List S57) (a1 a2 a3 : Int) : ∃ k, turnspitlaw09_TreeTells.f k a0 l a1 a2 a3 = some true := by
  by_cases hl : (l.length : Int) > 70
  · exact ⟨0, by unfold turnspitlaw09_TreeTells.f; rw [if_pos hl]; rfl⟩
  · obtain ⟨t, ht⟩ : ∃ t : St, t = ⟨l.map tree_Insert.nd, a0⟩ := ⟨_, rfl⟩
    have hok : ∀ (l : List S57), ¬ (l.length : Int) > 70 → tree_Insert.okN l = true := fun l h => decide_eq_true (by omega)
    obtain ⟨r, hr, hr2⟩ := ins_tot t a1 (a2, a3)
    obtain ⟨d, hd, hd2⟩ := del_tot t a1 a3
    have e1 : tree_Insert.f a0 l a1 a2 a3 = some (r.1.rt, r.1.ns.map tree_Insert.un, r.2) := by
      unfold tree_Insert.f
      rw [if_pos (hok l hl), ← ht, hr]; rfl
    have e2 : turnspitref09_Insert.f a0 l a1 a2 a3 = some (r.1.rt, r.1.ns.map tree_Insert.un, r.2) := e1
    have e3 : tree_Delete.f a0 l a1 a3 = some (d.1.rt, d.1.ns.map tree_Insert.un, d.2) := by
      unfold tree_Delete.f
      rw [if_pos (show tree_Delete.okN l = true from hok l hl), show (⟨l.map tree_Delete.nd, a0⟩ : St) = t from ht.symm, hd]; rfl
    have e4 : turnspitref09_Delete.f a0 l a1 a3 = some (d.1.rt, d.1.ns.map tree_Insert.un, d.2) := e3
    have e5 : tree_Right.f a0 l a1 = some (rightA t a1) := by
      unfold tree_Right.f
      rw [if_pos (show tree_Right.okN l = true from hok l hl), show (⟨l.map tree_Right.nd, a0⟩ : St) = t from ht.symm]
    have e6 : turnspitref09_Right.f a0 l a1 = some (rightA t a1) := e5
    have e7 : tree_Walk.f a0 l = some ((walkA t).map tree_Walk.un2) := by
      unfold tree_Walk.f
      rw [if_pos (show tree_Walk.okN l = true from hok l hl), show (⟨l.map tree_Walk.nd, a0⟩ : St) = t from ht.symm]
    have e8 : turnspitref09_Walk.f a0 l = some ((walkA t).map tree_Walk.un2) := e7
    have e9 : ∃ x, tree_First.f a0 l = some x := by
      unfold tree_First.f
      rw [if_pos (show tree_First.okN l = true from hok l hl)]
      exact ⟨_, rfl⟩
    obtain ⟨x, e9⟩ := e9
    have e10 : turnspitref09_First.f a0 l = some x := e9
    have e11 : tree_Height.f a0 l = some (heightA t) := by
      unfold tree_Height.f
      rw [if_pos (show tree_Height.okN l = true from hok l hl), show (⟨l.map tree_Height.nd, a0⟩ : St) = t from ht.symm]
    have e12 : turnspitref09_Height.f a0 l = some (heightA t) := e11
    have s1 := rsame9 (l := r.1.ns.map tree_Insert.un) (a := r.1.rt) (by rw [List.length_map]; omega)
    have s2 := rsame9 (l := d.1.ns.map tree_Insert.un) (a := d.1.rt) (by rw [List.length_map]; omega)
    have s3 := rsame8 (l := (walkA t).map tree_Walk.un2) (by rw [List.length_map]; have := walk_le t; omega)
    obtain ⟨K1, h1⟩ := s1
    obtain ⟨K2, h2⟩ := s2
    obtain ⟨K3, h3⟩ := s3
    refine ⟨K1 + K2 + K3 + 1, ?_⟩
    have g1 := h1 (K1 + K2 + K3 + 1) (by omega)
    have g2 := h2 (K1 + K2 + K3 + 1) (by omega)
    have g3 := h3 (K1 + K2 + K3) (by omega)
    simp only at g1 g2 g3
    unfold turnspitlaw09_TreeTells.f
    rw [if_neg hl, e1, Option.bind_some, e2, Option.bind_some, e3, Option.bind_some, e4, Option.bind_some]
    simp only
    rw [g1, Option.bind_some, if_pos rfl, if_pos trivial, g2, Option.bind_some, if_pos rfl]
    rw [show (d.2 != d.2) = false by simp, turnspitlaw09_TreeTells.j0, if_neg (by simp), e9, Option.bind_some, e10, Option.bind_some, show turnspitlaw09_awake.f = some true from rfl, Option.bind_some, if_pos rfl, e5, Option.bind_some, e6, Option.bind_some, if_pos (by simp), e7, Option.bind_some, e8, Option.bind_some, g3, Option.bind_some, if_pos rfl, if_pos (by simp), if_pos (by simp), e11, Option.bind_some, e12, Option.bind_some]
    simp
end Go.Proofs.YtfapmcpmfeigbaaDoor.QTreeTells
end
