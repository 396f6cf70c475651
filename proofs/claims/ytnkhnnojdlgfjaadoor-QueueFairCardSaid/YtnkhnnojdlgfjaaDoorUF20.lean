/- Parts of the proof, joined: TmP. -/
import Derived.Test.YtnkhnnojdlgfjaaDoorUF18
import Derived.Test.YtnkhnnojdlgfjaaDoorUF19
namespace Go.Proofs.YtnkhnnojdlgfjaaDoor.Tm
open Go.RowKit Go Go.Proofs Go.Proofs.YtnkhnnojdlgfjaaDoor Go.Proofs.YtnkhnnojdlgfjaaDoor.Tr Go.Proofs.YtnkhnnojdlgfjaaDoor.Tk Go.Proofs.YtnkhnnojdlgfjaaDoorW.PrintWords Go.Proofs.YtnkhnnojdlgfjaaDoorW.PrintLast Go.Proofs.YtnkhnnojdlgfjaaDoorW.PrintMore
set_option linter.unusedVariables false
set_option linter.unusedSimpArgs false
theorem w64 (x : Int) : IntKind.u64.wrap x = x % 18446744073709551616 := by unfold IntKind.wrap; simp [IntKind.signed, IntKind.bits]
theorem cv_lt {mn : Int} {x y : K} : cvf mn x y < 0 ↔ lagf mn x.1 < lagf mn y.1 ∨ lagf mn x.1 = lagf mn y.1 ∧ x.2 < y.2 := by
  unfold cvf
  repeat' split
  all_goals omega
theorem lt_trans {mn : Int} {x y z : K} (h : cvf mn x y < 0) (k : cvf mn y z < 0) : cvf mn x z < 0 := by
  rw [cv_lt] at *
  omega
theorem lt_asymm {mn : Int} {x y : K} (h : cvf mn x y < 0) : ¬ cvf mn y x < 0 := by
  rw [cv_lt] at *
  omega
structure SS (mn : Int) (l : List K) : Prop where
  pw : l.Pairwise (fun x y => cvf mn x y < 0)
  nd : l.Pairwise (fun x y => x.2 ≠ y.2)
theorem sortedK_iff {mn : Int} {l : List K} : sortedK (cvf mn) l = true ↔ SS mn l := by
  unfold sortedK
  rw [decide_eq_true_iff]
  constructor
  · intro h
    have hlt : ∀ j i, i < j → j < l.length → cvf mn (gt l i) (gt l j) < 0 := by
      intro j
      induction j with
      | zero => intro i hi; omega
      | succ j ih =>
        intro i hi hj
        have h1 := (h (j + 1) hj).1
        rcases h1 with h1 | h1
        · omega
        · rw [show j + 1 - 1 = j by omega] at h1
          by_cases e : i = j
          · subst e; exact h1
          · exact lt_trans (ih i (by omega) (by omega)) h1
    refine ⟨List.pairwise_iff_getElem.2 fun i j hi hj hij => ?_, List.pairwise_iff_getElem.2 fun i j hi hj hij => ?_⟩
    · have := hlt j i hij hj
      rwa [gt_of l i hi, gt_of l j hj] at this
    · have := (h j hj).2 i hij
      rwa [gt_of l i hi, gt_of l j hj] at this
  · intro h i hi
    refine ⟨?_, fun j hj => ?_⟩
    · by_cases e : i = 0
      · exact Or.inl e
      · refine Or.inr ?_
        have := List.pairwise_iff_getElem.1 h.pw (i - 1) i (by omega) hi (by omega)
        rwa [gt_of l (i - 1) (by omega), gt_of l i hi]
    · have := List.pairwise_iff_getElem.1 h.nd j i (by omega) hi hj
      rwa [gt_of l j (by omega), gt_of l i hi]
theorem pw_strict {mn : Int} : ∀ {l : List K}, l.Pairwise (fun x y => ¬ cvf mn y x < 0) → l.Pairwise (fun x y => x.2 ≠ y.2) → l.Pairwise (fun x y => cvf mn x y < 0)
  | [], _, _ => .nil
  | x :: t, h, k => by
    rw [List.pairwise_cons] at h k ⊢
    refine ⟨fun y hy => ?_, pw_strict h.2 k.2⟩
    have h1 := h.1 y hy
    have h2 := k.1 y hy
    rw [cv_lt] at *
    omega
theorem nd_perm {a b : List K} (h : a.Perm b) (k : a.Pairwise (fun x y => x.2 ≠ y.2)) : b.Pairwise (fun x y => x.2 ≠ y.2) := (h.pairwise_iff (fun h => fun e => h e.symm)).1 k
theorem blA_rb : ∀ {a : T}, (blA a).2 = true → RB a (blA a).1.toNat
  | .E, _ => rfl
  | .B c l x r, h => by
    have p1 := (blA_le l).1
    unfold blA at h ⊢
    split at h
    · cases h
    · rename_i h1
      split at h
      · cases h
      · rename_i h2
        split at h
        · cases h
        · rename_i h3
          split at h
          · cases h
          · rename_i h4
            rw [if_neg h1, if_neg h2, if_neg h3, if_neg h4]
            have e1 := blA_rb (a := l) (by simpa using h1)
            have e2 := blA_rb (a := r) (by simpa using h2)
            have h3' : (blA l).1 = (blA r).1 := by simpa using h3
            rw [← h3'] at e2
            refine ⟨fun hc => ⟨?_, ?_⟩, (blA l).1.toNat, e1, e2, ?_⟩
            · cases hl : l.red with
              | false => rfl
              | true => exact absurd ⟨hc, Or.inl hl⟩ h4
            · cases hl : r.red with
              | false => rfl
              | true => exact absurd ⟨hc, Or.inr hl⟩ h4
            · cases c <;> simp <;> omega
theorem rb_blA : ∀ {a : T} {n : Nat}, RB a n → blA a = ((n : Int), true)
  | .E, n, h => by
    have h : n = 0 := h
    subst h; rfl
  | .B c l x r, n, ⟨h1, m, h2, h3, h4⟩ => by
    unfold blA
    rw [rb_blA h2, rb_blA h3, if_neg (by simp), if_neg (by simp), if_neg (by simp)]
    cases c with
    | true =>
      obtain ⟨a1, a2⟩ := h1 rfl
      rw [if_neg (by rw [a1, a2]; simp), if_pos rfl]
      subst h4; rfl
    | false =>
      rw [if_neg (by simp), if_neg (by simp)]
      subst h4; rfl
structure RT (t : St) (a : T) : Prop where
  whole : Whole t a
  red : a.red = false
  rb : ∃ m, RB a m
  len : t.ns.length ≤ 64
variable {t : St}
theorem RT.ord {a : T} (h : RT t a) : ordA t = some a := ordA_iff.2 ⟨h.len, h.whole⟩
theorem RT.walk {a : T} (h : RT t a) : walkA t = keysOf t a.ids := by unfold walkA; rw [h.ord]
theorem RT.right {a : T} {mn : Int} (h : RT t a) (k : SS mn (keysOf t a.ids)) : rightA t mn = true := by
  obtain ⟨m, hm⟩ := h.rb
  unfold rightA
  rw [h.ord]
  show (if a.red = true then false else if (blA a).2 = false then false else sortedK (cvf mn) (keysOf t a.ids)) = true
  rw [if_neg (by rw [h.red]; simp), rb_blA hm, if_neg (by simp)]
  exact sortedK_iff.2 k
theorem right_RT {mn : Int} (h : rightA t mn = true) : ∃ a, RT t a ∧ SS mn (keysOf t a.ids) := by
  obtain ⟨a, h1, h2, h3⟩ := right_whole h
  unfold rightA at h
  rw [h1] at h
  change (if a.red = true then false else if (blA a).2 = false then false else sortedK (cvf mn) (keysOf t a.ids)) = true at h
  split at h
  · cases h
  · rename_i r1
    split at h
    · cases h
    · rename_i r2
      exact ⟨a, ⟨h2, by simpa using r1, ⟨_, blA_rb (by simpa using r2)⟩, h3⟩, sortedK_iff.1 h⟩
theorem lay_inn {a : T} : ∀ {u : Option Int}, Lay t a u → ∀ z ∈ a.ids, (gn t z).inn = true := by
  induction a with
  | E => intro u _ z hz; cases hz
  | B c l x r il ir =>
    intro u ⟨h1, h2, h3, h4, h5, h6, h7, h8⟩ z hz
    rcases List.mem_append.1 hz with h | h
    · exact il h7 z h
    · rcases List.mem_cons.1 h with rfl | h
      · exact h2
      · exact ir h8 z h
theorem Whole.mem {a : T} (h : Whole t a) (z : Nat) : z ∈ a.ids ↔ (gn t z).inn = true := by
  refine ⟨lay_inn h.lay z, fun hz => ?_⟩
  by_cases hm : z ∈ a.ids
  · exact hm
  · exfalso
    by_cases hl : z < t.ns.length
    · rw [h.out z hl hm] at hz; cases hz
    · unfold gn at hz
      rw [List.getD_eq_getElem?_getD, List.getElem?_eq_none (by omega)] at hz; cases hz
theorem keysOf_congr {t' : St} {l : List Nat} (h : ∀ z ∈ l, (gn t' z).v = (gn t z).v) : keysOf t' l = keysOf t l := by
  unfold keysOf
  exact List.map_congr_left fun z hz => by rw [h z hz]
theorem keysOf_app (l m : List Nat) : keysOf t (l ++ m) = keysOf t l ++ keysOf t m := List.map_append
theorem ins_ok {a : T} {mn : Int} {k : K} (h : RT t a) (hS : SS mn (keysOf t a.ids)) (h0 : 0 ≤ k.2) (h1 : k.2 < t.ns.length) (hi : (gn t k.2.toNat).inn = false) :
    ∃ t' a' lf rg, insA t mn k = some (t', 0) ∧ RT t' a' ∧ a.ids = lf ++ rg ∧ a'.ids = lf ++ k.2.toNat :: rg ∧ (∀ x ∈ lf, ltA t mn k x = false) ∧ (∀ x ∈ rg, ltA t mn k x = true) ∧ t'.ns.length = t.ns.length ∧ (∀ z, z ≠ k.2.toNat → (gn t' z).v = (gn t z).v) ∧ (gn t' k.2.toNat).v = k.1 := by
  obtain ⟨m, hm⟩ := h.rb
  obtain ⟨id, v, rfl⟩ : ∃ (id : Nat) (v : Int), k = (v, (id : Int)) := ⟨k.2.toNat, k.1, by rw [show ((k.2.toNat : Nat) : Int) = k.2 from by omega]⟩
  simp only [Int.toNat_natCast] at *
  have hni : id ∉ a.ids := fun e => by rw [(h.whole.mem id).1 e] at hi; cases hi
  have hid : id < t.ns.length := by omega
  have hlt : a.ids.Pairwise (fun x y => ltA t mn (v, (id : Int)) x = true → ltA t mn (v, (id : Int)) y = true) := by
    have := hS.pw
    unfold keysOf at this
    rw [List.pairwise_map] at this
    refine this.imp fun {x y} hxy hx => ?_
    unfold ltA at hx ⊢
    rw [decide_eq_true_iff] at hx ⊢
    exact lt_trans hx hxy
  obtain ⟨t', lf, rg, e1, e2, e3, e4, e5, e6⟩ := put_lay (v := v) (ltA t mn (v, (id : Int))) h.whole.lay h.whole.rt h.whole.nd hm h.red hid hni hlt
  obtain ⟨A, g1, g2, g3, g4, g5⟩ := e6.ex
  have hsz : a.size < t.ns.length + 2 := by
    rw [← size_ids]
    have := nodup_len h.whole.nd (fun x hx => h.whole.lay.lt x hx)
    omega
  have hp := down_plug (ltA t mn (v, (id : Int))) a []
  change plug _ T.E = a at hp
  have hpi := plug_ids (down (ltA t mn (v, (id : Int))) a []) T.E
  rw [hp] at hpi
  change a.ids.Perm (idsC (down (ltA t mn (v, (id : Int))) a [])) at hpi
  have hup : ∀ z : Nat, (z : Int) = upC (down (ltA t mn (v, (id : Int))) a []) → z ∈ a.ids := fun z hz => by
    refine hpi.mem_iff.2 ?_
    cases hC : down (ltA t mn (v, (id : Int))) a [] with
    | nil => rw [hC] at hz; exact absurd hz (by show ¬ (z : Int) = -1; omega)
    | cons f C =>
      rw [hC] at hz
      have hz : (z : Int) = (f.x : Int) := hz
      have : z = f.x := by omega
      subst this
      simp [idsC]
  have hx : 0 ≤ upC (down (ltA t mn (v, (id : Int))) a []) → (upC (down (ltA t mn (v, (id : Int))) a [])).toNat < (sn t id (newN v)).ns.length := fun hu => by
    rw [sn_len]
    exact h.whole.lay.lt _ (hup _ (by omega))
  have hy : 0 ≤ (id : Int) → (id : Int).toNat < (sn t id (newN v)).ns.length := fun _ => by rw [sn_len]; omega
  have hgs : ∀ z, gn (sn t id (newN v)) z = if z = id then newN v else gn t z := fun z => gn_sn _ _ _ _ hid
  have hv : ∀ z, (gn t' z).v = if z = id then v else (gn t z).v := fun z => by
    rw [(e6.keeps.at_ z).1]
    change (gn (hangA (sn t id (newN v)) _ _ _) z).v = _
    rw [hang_v _ hx hy, hgs]
    split <;> rfl
  have hlen : t'.ns.length = t.ns.length := by
    rw [e6.keeps.len, hang_len]
    exact sn_len _ _ _
  have hk := hang_keeps (s := sideC (down (ltA t mn (v, (id : Int))) a [])) (S := fun z => z ∈ id :: a.ids) hx hy (fun z hz => List.mem_cons_of_mem _ (hup z hz)) (fun z hz => by rw [show z = id by omega]; exact List.mem_cons_self)
  have hids : ∀ z, z ∈ A.ids ↔ z ∈ id :: a.ids := fun z => by
    rw [g3, e1]
    simp only [List.mem_append, List.mem_cons]
    exact or_left_comm
  refine ⟨t', A, lf, rg, ?_, ⟨⟨g1, g2, ?_, fun z hz hzn => ?_⟩, g5, g4, by rw [hlen]; exact h.len⟩, e1, g3, e2, e3, hlen, fun z hz => by rw [hv, if_neg hz], by rw [hv, if_pos rfl]⟩
  · unfold insA
    rw [if_neg (by rw [h.right hS]; simp), if_neg (by show ¬ ((id : Int) < 0 ∨ (t.ns.length : Int) ≤ (id : Int) ∨ (gn t (id : Int).toNat).inn = true); rw [Int.toNat_natCast, hi]; simp; omega), e4 _ hsz]
    have := e5 (t.ns.length + 2) (by omega)
    change mendA (t.ns.length + 2) (hangA (sn t id (newN v)) _ _ _) _ = _ at this
    simp only [Int.toNat_natCast]
    rw [this]
  · rw [g3]
    refine List.perm_middle.nodup_iff.2 (List.nodup_cons.2 ⟨?_, ?_⟩)
    · rw [← e1]; exact hni
    · rw [← e1]; exact h.whole.nd
  · have hzn2 : ¬ (z ∈ id :: a.ids) := fun e => hzn ((hids z).2 e)
    rw [(e6.keeps.at_ z).2 hzn2]
    change gn (hangA (sn t id (newN v)) _ _ _) z = emp
    rw [(hk.at_ z).2 hzn2, hgs, if_neg (fun e => hzn2 (by rw [e]; exact List.mem_cons_self))]
    exact h.whole.out z (by rw [← hlen]; exact hz) (fun e => hzn2 (List.mem_cons_of_mem _ e))
theorem del_ok {a : T} {id : Nat} (h : RT t a) (hid : id ∈ a.ids) :
    ∃ t' a' lf rg, delA (t.ns.length + 2) t id = some t' ∧ RT t' a' ∧ a.ids = lf ++ id :: rg ∧ a'.ids = lf ++ rg ∧ t'.ns.length = t.ns.length ∧ ∀ z, z ≠ id → (gn t' z).v = (gn t z).v := by
  obtain ⟨m, hm⟩ := h.rb
  obtain ⟨t', e1, e2⟩ := del_lay h.whole.lay h.whole.rt h.whole.nd hm h.red hid
  obtain ⟨lf, rg, A, g1, g2, g3, g4, g5, g6⟩ := e2.ex
  refine ⟨t', A, lf, rg, e1 _ (by omega), ⟨⟨g2, g3, ?_, fun z hz hzn => ?_⟩, g6, g5, by rw [e2.len]; exact h.len⟩, g1, g4, e2.len, fun z hz => (e2.keeps z hz).1⟩
  · have := h.whole.nd
    rw [g1] at this
    rw [g4]
    exact (List.nodup_cons.1 (List.perm_middle.nodup_iff.1 this)).2
  · by_cases e : z = id
    · rw [e]; exact e2.gone
    · have hn : z ∉ a.ids := fun hm => hzn (by
        rw [g1] at hm
        rw [g4]
        simp only [List.mem_append, List.mem_cons] at hm ⊢
        rcases hm with hm | hm | hm
        · exact Or.inl hm
        · exact absurd hm e
        · exact Or.inr hm)
      rw [(e2.keeps z e).2 hn]
      exact h.whole.out z (by rw [← e2.len]; exact hz) hn
theorem new_RT {n : Int} (h : 0 ≤ n ∧ n ≤ 64) : RT (newA n).1 .E ∧ (newA n).1.ns.length = n.toNat ∧ newA n = ((newA n).1, 0) := by
  have e : newA n = (⟨List.replicate n.toNat emp, -1⟩, 0) := if_neg (by omega)
  rw [e]
  refine ⟨⟨⟨trivial, rfl, List.nodup_nil, fun z hz _ => ?_⟩, rfl, ⟨0, rfl⟩, by simp; omega⟩, by simp, rfl⟩
  unfold gn
  simp only [List.length_replicate] at hz
  simp [hz]
def ins (mn : Int) (l : List K) (k : K) : List K := l.take (l.findIdx (fun x => decide (cvf mn k x < 0))) ++ k :: l.drop (l.findIdx (fun x => decide (cvf mn k x < 0)))
theorem ins_cons (mn : Int) (x : K) (t : List K) (k : K) : ins mn (x :: t) k = if cvf mn k x < 0 then k :: x :: t else x :: ins mn t k := by
  unfold ins
  by_cases h : cvf mn k x < 0
  · rw [if_pos h, List.findIdx_cons]
    simp [h]
  · rw [if_neg h, List.findIdx_cons]
    simp [h]
theorem ins_nil (mn : Int) (k : K) : ins mn [] k = [k] := rfl
theorem ins_perm (mn : Int) (k : K) : ∀ l : List K, (ins mn l k).Perm (k :: l)
  | [] => List.Perm.refl _
  | x :: t => by
    rw [ins_cons]
    split
    · exact List.Perm.refl _
    · exact ((ins_perm mn k t).cons x).trans (List.Perm.swap k x t)
theorem ins_SS {mn : Int} {k : K} : ∀ {l : List K}, SS mn l → (∀ x ∈ l, x.2 ≠ k.2) → SS mn (ins mn l k)
  | [], _, _ => by rw [ins_nil]; exact ⟨List.pairwise_singleton _ _, List.pairwise_singleton _ _⟩
  | x :: t, h, hk => by
    have h1 := List.pairwise_cons.1 h.pw
    have h2 := List.pairwise_cons.1 h.nd
    rw [ins_cons]
    split
    · rename_i c
      refine ⟨List.pairwise_cons.2 ⟨fun y hy => ?_, h.pw⟩, List.pairwise_cons.2 ⟨fun y hy e => hk y hy e.symm, h.nd⟩⟩
      rcases List.mem_cons.1 hy with rfl | hy
      · exact c
      · exact lt_trans c (h1.1 y hy)
    · rename_i c
      have ih := ins_SS (mn := mn) (k := k) (l := t) ⟨h1.2, h2.2⟩ (fun y hy => hk y (List.mem_cons_of_mem _ hy))
      have hx := hk x (List.mem_cons_self)
      refine ⟨List.pairwise_cons.2 ⟨fun y hy => ?_, ih.pw⟩, List.pairwise_cons.2 ⟨fun y hy => ?_, ih.nd⟩⟩
      · rcases List.mem_cons.1 ((ins_perm mn k t).mem_iff.1 hy) with rfl | hy
        · rw [cv_lt] at *
          omega
        · exact h1.1 y hy
      · rcases List.mem_cons.1 ((ins_perm mn k t).mem_iff.1 hy) with rfl | hy
        · exact hx
        · exact h2.1 y hy
def del (l : List K) (id : Int) : List K := l.take (l.findIdx (fun x => x.2 == id)) ++ l.drop (l.findIdx (fun x => x.2 == id) + 1)
theorem del_cons (x : K) (t : List K) (id : Int) : del (x :: t) id = if x.2 = id then t else x :: del t id := by
  unfold del
  by_cases h : x.2 = id
  · rw [if_pos h, List.findIdx_cons]
    simp [h]
  · rw [if_neg h, List.findIdx_cons]
    have hb : (x.2 == id) = false := beq_eq_false_iff_ne.2 h
    simp [hb]
theorem del_filter : ∀ {l : List K} {id : Int}, l.Pairwise (fun x y => x.2 ≠ y.2) → del l id = l.filter (fun x => x.2 != id)
  | [], id, _ => rfl
  | x :: t, id, h => by
    obtain ⟨h1, h2⟩ := List.pairwise_cons.1 h
    rw [del_cons, List.filter_cons]
    by_cases e : x.2 = id
    · rw [if_pos e, if_neg (by simp [e])]
      symm
      rw [List.filter_eq_self]
      intro y hy
      have := h1 y hy
      rw [e] at this
      simpa using this.symm
    · rw [if_neg e, if_pos (by simpa using e), del_filter h2]
theorem SS.sub {mn : Int} {a b : List K} (h : SS mn b) (k : a.Sublist b) : SS mn a := ⟨h.pw.sublist k, h.nd.sublist k⟩
theorem del_SS {mn : Int} {l : List K} {id : Int} (h : SS mn l) : SS mn (del l id) := by
  rw [del_filter h.nd]
  exact h.sub List.filter_sublist
theorem ins_split {mn : Int} {k : K} {rg : List K} (hr : ∀ x ∈ rg, cvf mn k x < 0) : ∀ {lf : List K}, (∀ x ∈ lf, ¬ cvf mn k x < 0) → ins mn (lf ++ rg) k = lf ++ k :: rg
  | [], _ => by
    cases rg with
    | nil => exact ins_nil mn k
    | cons x t => rw [List.nil_append, ins_cons, if_pos (hr x List.mem_cons_self), List.nil_append]
  | x :: t, h => by
    rw [List.cons_append, ins_cons, if_neg (h x List.mem_cons_self), ins_split hr (fun y hy => h y (List.mem_cons_of_mem _ hy)), List.cons_append]
theorem del_split {id : Int} {x : K} {rg : List K} (hx : x.2 = id) : ∀ {lf : List K}, (∀ y ∈ lf, y.2 ≠ id) → del (lf ++ x :: rg) id = lf ++ rg
  | [], _ => by rw [List.nil_append, del_cons, if_pos hx, List.nil_append]
  | y :: t, h => by
    rw [List.cons_append, del_cons, if_neg (h y List.mem_cons_self), del_split hx (fun z hz => h z (List.mem_cons_of_mem _ hz)), List.cons_append]
structure J (mn : Int) (n : Nat) (t : St) (L : List K) : Prop where
  ex : ∃ a, RT t a ∧ L = keysOf t a.ids
  ss : SS mn L
  len : t.ns.length = n
theorem J.right {mn : Int} {n : Nat} {t : St} {L : List K} (h : J mn n t L) : rightA t mn = true := by
  obtain ⟨a, h1, h2⟩ := h.ex
  exact h1.right (by rw [← h2]; exact h.ss)
theorem J.walk {mn : Int} {n : Nat} {t : St} {L : List K} (h : J mn n t L) : walkA t = L := by
  obtain ⟨a, h1, h2⟩ := h.ex
  rw [h1.walk, h2]
theorem J.small {mn : Int} {n : Nat} {t : St} {L : List K} (h : J mn n t L) : L.length ≤ n := by
  obtain ⟨a, h1, h2⟩ := h.ex
  rw [h2, ← h.len]
  unfold keysOf
  rw [List.length_map]
  exact nodup_len h1.whole.nd (fun x hx => h1.whole.lay.lt x hx)
theorem J.le {mn : Int} {n : Nat} {t : St} {L : List K} (h : J mn n t L) : t.ns.length ≤ 64 := by
  obtain ⟨a, h1, h2⟩ := h.ex
  exact h1.len
theorem mem_keys {t : St} {a : T} (h : Whole t a) {id : Int} (h0 : 0 ≤ id) : (∃ x ∈ keysOf t a.ids, x.2 = id) ↔ (gn t id.toNat).inn = true := by
  rw [← h.mem]
  unfold keysOf
  constructor
  · rintro ⟨x, hx, rfl⟩
    obtain ⟨z, hz, rfl⟩ := List.mem_map.1 hx
    exact hz
  · intro hz
    exact ⟨_, List.mem_map.2 ⟨_, hz, rfl⟩, by show ((id.toNat : Nat) : Int) = id; omega⟩
theorem del_J {mn : Int} {n : Nat} {t : St} {L : List K} {id : Int} (h : J mn n t L) (h0 : 0 ≤ id) (h1 : id < n) :
    (∃ t', delF t mn id = some (t', 0) ∧ J mn n t' (del L id) ∧ ∃ x ∈ L, x.2 = id) ∨ (∃ r : St × Int, delF t mn id = some r ∧ r.2 = 8 ∧ ∀ x ∈ L, x.2 ≠ id) := by
  have hr := h.right
  obtain ⟨a, g1, g2⟩ := h.ex
  have hl := h.len
  have hc : ¬ (id < 0 ∨ (t.ns.length : Int) ≤ id) := by omega
  have hm := mem_keys g1.whole h0
  rw [← g2] at hm
  by_cases hi : (gn t id.toNat).inn = true
  · left
    obtain ⟨t', a', lf, rg, e1, e2, e3, e4, e5, e6⟩ := del_ok g1 ((g1.whole.mem id.toNat).2 hi)
    have hnd := g1.whole.nd
    rw [e3] at hnd
    have hno : ∀ z ∈ lf ++ rg, z ≠ id.toNat := fun z hz e => (List.nodup_cons.1 (List.perm_middle.nodup_iff.1 hnd)).1 (by rw [← e]; exact hz)
    have hL : del L id = keysOf t' a'.ids := by
      rw [g2, e3, e4, keysOf_congr (t := t) (fun z hz => e6 z (hno z hz)), keysOf_app, keysOf_app]
      show del (keysOf t lf ++ ((gn t id.toNat).v, ((id.toNat : Nat) : Int)) :: keysOf t rg) id = _
      refine del_split (by show ((id.toNat : Nat) : Int) = id; omega) fun y hy => ?_
      obtain ⟨z, hz, rfl⟩ := List.mem_map.1 hy
      have := hno z (List.mem_append_left _ hz)
      show (z : Int) ≠ id
      omega
    refine ⟨t', ?_, ⟨⟨a', e2, hL⟩, del_SS h.ss, by rw [e5, hl]⟩, hm.2 hi⟩
    unfold delF
    rw [if_neg (by rw [hr]; simp), if_neg hc, if_neg (by rw [hi]; simp), e1]
  · right
    have hi' : (gn t id.toNat).inn = false := by simpa using hi
    refine ⟨(⟨[], 0⟩, 8), ?_, rfl, fun x hx e => hi (hm.1 ⟨x, hx, e⟩)⟩
    unfold delF
    rw [if_neg (by rw [hr]; simp), if_neg hc, if_pos hi']
theorem ins_J {mn : Int} {n : Nat} {t : St} {L : List K} {k : K} (h : J mn n t L) (h0 : 0 ≤ k.2) (h1 : k.2 < n) :
    (∃ t', insA t mn k = some (t', 0) ∧ J mn n t' (ins mn L k) ∧ ∀ x ∈ L, x.2 ≠ k.2) ∨ (∃ r : St × Int, insA t mn k = some r ∧ r.2 = 1 ∧ ∃ x ∈ L, x.2 = k.2) := by
  have hr := h.right
  obtain ⟨a, g1, g2⟩ := h.ex
  have hl := h.len
  have hm := mem_keys g1.whole h0
  rw [← g2] at hm
  by_cases hi : (gn t k.2.toNat).inn = true
  · right
    refine ⟨(⟨[], 0⟩, 1), ?_, rfl, hm.2 hi⟩
    unfold insA
    rw [if_neg (by rw [hr]; simp), if_pos (Or.inr (Or.inr hi))]
  · left
    have hi' : (gn t k.2.toNat).inn = false := by simpa using hi
    have hno : ∀ x ∈ L, x.2 ≠ k.2 := fun x hx e => hi (hm.1 ⟨x, hx, e⟩)
    obtain ⟨t', a', lf, rg, e1, e2, e3, e4, e5, e6, e7, e8, e9⟩ := ins_ok g1 (by rw [← g2]; exact h.ss) h0 (by omega) hi'
    have hni : ∀ z ∈ lf ++ rg, z ≠ k.2.toNat := fun z hz e => hi ((g1.whole.mem _).1 (by rw [e3, ← e]; exact hz))
    refine ⟨t', e1, ⟨⟨a', e2, ?_⟩, ins_SS h.ss hno, by rw [e7, hl]⟩, hno⟩
    rw [g2, e3, e4, keysOf_app, keysOf_app]
    rw [ins_split (fun x hx => ?_) (fun x hx => ?_)]
    · rw [keysOf_congr (t := t) (l := lf) (fun z hz => e8 z (hni z (List.mem_append_left _ hz)))]
      congr 1
      show k :: keysOf t rg = ((gn t' k.2.toNat).v, ((k.2.toNat : Nat) : Int)) :: keysOf t' rg
      rw [keysOf_congr (t := t) (l := rg) (fun z hz => e8 z (hni z (List.mem_append_right _ hz))), e9, show ((k.2.toNat : Nat) : Int) = k.2 from by omega]
    · obtain ⟨z, hz, rfl⟩ := List.mem_map.1 hx
      have := e6 z hz
      unfold ltA at this
      exact of_decide_eq_true this
    · obtain ⟨z, hz, rfl⟩ := List.mem_map.1 hx
      have := e5 z hz
      unfold ltA at this
      exact of_decide_eq_false this
theorem new_J (mn : Int) {n : Int} (h : 0 ≤ n ∧ n ≤ 64) : J mn n.toNat (newA n).1 [] := by
  obtain ⟨h1, h2, _⟩ := new_RT h
  exact ⟨⟨.E, h1, rfl⟩, ⟨List.Pairwise.nil, List.Pairwise.nil⟩, h2⟩
end Go.Proofs.YtnkhnnojdlgfjaaDoor.Tm
