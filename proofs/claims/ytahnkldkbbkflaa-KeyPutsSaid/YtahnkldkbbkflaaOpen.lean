/- What an argument reads as, told by the print's kinds: whole numbers, bools, slices, structs; any depth. No condition. Written by hand. -/
import Derived.Test.YtahnkldkbbkflaaWMore
import Derived.Test.YtahnkldkbbkflaaProg
import Derived.WalkKit
import Derived.ProofKit
import Derived.OpenShut
import Derived.ChangeOld
import Derived.Below
import Derived.Carry
import Derived.SizedLaws
import Derived.ChangeSlices
import Derived.ChangeSame
import Derived.ChangeArms
import Derived.Deep.Slices
import Derived.DataElems
namespace Go.Proofs.Ytahnkldkbbkflaa.Opn
open Go Go.RowKit Go.Deep Go.ChangeShapes Go.WideShapes Go.ChangeAt Go.Proofs.YtahnkldkbbkflaaW.PrintWords Go.Proofs.YtahnkldkbbkflaaW.PrintLast Go.Proofs.YtahnkldkbbkflaaW.PrintMore
set_option linter.unusedVariables false
/-- Whatever is read by type t is a value of the kind d, and good -/
def Op (P : Program) (W : World) (t : TypeId) {α : Type} (d : Kd α) (G : α → Prop) : Prop :=
  ∀ (H : Type) (enc : TypeId × Value → H) (fuel : Nat) (cs : List Value) (x : DataW H × List MemPlace), DataW.trod enc P W 0 (fun _ => true) true fuel t cs = some x → (∀ n ∈ DataW.weights P t x.1, n ≤ reachBytes) → ∃ p, d.K W p cs ∧ G p
variable {P : Program} {W : World}
theorem Op.int {t : TypeId} {k : IntKind} (ht : P.underlying t = some (.int k)) : Op P W t (Kd.int k) (fun x => (Lit.int k x).wf = true) := by
  intro H enc fuel cs x h hw
  obtain ⟨n, rfl, _, hwf⟩ := DataW.trod_int ht h
  exact ⟨n, rfl, hwf⟩
theorem Op.bool {t : TypeId} (ht : P.underlying t = some .bool) : Op P W t Kd.bool (fun _ => True) := by
  intro H enc fuel cs x h hw
  obtain ⟨n, rfl, _⟩ := DataW.trod_bool ht h
  exact ⟨n, rfl, trivial⟩
theorem choose_list {α : Type} (n : Nat) (Q : Nat → α → Prop) (h : ∀ i, i < n → ∃ p, Q i p) : ∃ l : List α, l.length = n ∧ ∀ i p, l[i]? = some p → Q i p := by
  induction n with
  | zero => exact ⟨[], rfl, fun i p hp => by simp at hp⟩
  | succ n ih =>
    obtain ⟨l, hl, hq⟩ := ih (fun i hi => h i (by omega))
    obtain ⟨p, hp⟩ := h n (by omega)
    refine ⟨l ++ [p], by simp [hl], fun i q hq2 => ?_⟩
    by_cases hi : i < l.length
    · rw [List.getElem?_append_left hi] at hq2
      exact hq i q hq2
    · rw [List.getElem?_append_right (by omega)] at hq2
      have h0 : i - l.length = 0 := by
        apply Classical.byContradiction
        intro hn
        rw [List.getElem?_eq_none (by simp; omega)] at hq2
        cases hq2
      rw [h0] at hq2
      obtain rfl : p = q := by simpa using hq2
      obtain rfl : i = n := by omega
      exact hp
theorem mem_weightsAll {H : Type} {e : TypeId} {d : DataW H} {n : Nat} (hn : n ∈ DataW.weights P e d) : ∀ {ds : List (DataW H)}, d ∈ ds → n ∈ DataW.weightsAll P e ds
  | a :: r, h => by
    rw [DataW.weightsAll, List.mem_append]
    rcases List.mem_cons.1 h with rfl | h
    · exact Or.inl hn
    · exact Or.inr (mem_weightsAll hn h)
theorem Op.slice {t e : TypeId} {α : Type} {d : Kd α} {G : α → Prop} (ht : P.underlying t = some (.slice e)) (hc : P.cellsOf e = d.sz) (he : Op P W e d G) : Op P W t (Kd.slice e d) (fun l => l.length * P.bytesOf e ≤ reachBytes ∧ ∀ x ∈ l, G x) := by
  intro H enc fuel cs x h hw
  rcases open_slice ht h with ⟨rfl, _⟩ | ⟨a, len, cap, m, n, D, Pl, rfl, _, hl, hm, hmm, rfl, hel⟩
  · exact ⟨[], ⟨none, 0, rfl, Nat.le_refl _, rfl, by simp, fun h => absurd h (by simp)⟩, by simp, fun x hx => by simp at hx⟩
  have hm2 : m = cap := by simpa using hmm
  subst hm2
  rw [DataW.weights, ht] at hw
  simp only [List.length_map, List.length_range] at hw
  have hw0 := hw _ List.mem_cons_self
  have hwe : ∀ i, i < len → ∀ n ∈ DataW.weights P e (D i), n ≤ reachBytes := fun i hi n hn => hw n (List.mem_cons_of_mem _ (List.mem_append.2 (Or.inl (mem_weightsAll hn (List.mem_map.2 ⟨i, List.mem_range.2 hi, rfl⟩)))))
  obtain ⟨l, hlen, hq⟩ := choose_list len (fun i p => ∃ c, W.cells? 0 (a.add (i * P.cellsOf e)) (P.cellsOf e) = some c ∧ d.K W p c ∧ G p) (fun i hi => by
    obtain ⟨cs', h1, h2⟩ := hel i (by omega)
    obtain ⟨p, h3, h4⟩ := he H enc n cs' _ h2 (hwe i hi)
    exact ⟨p, cs', h1, h3, h4⟩)
  refine ⟨l, ⟨some a, m, by rw [hlen], by omega, rfl, by rw [hlen]; unfold maxLen at hm; omega, fun _ => ⟨a, rfl, fun j p hp => ?_⟩⟩, by rw [hlen]; exact Nat.le_trans (Nat.mul_le_mul_right _ (Nat.le_add_right _ _)) hw0, fun x hx => ?_⟩
  · obtain ⟨c, h1, h2, _⟩ := hq j p hp
    obtain ⟨_, h4, h5⟩ := World.cells?_some h1
    refine ⟨c, by rw [h4, hc], h2, fun i u hu => ?_⟩
    have hi : i < P.cellsOf e := by
      rw [← h4]
      exact (List.getElem?_eq_some_iff.1 hu).1
    have := h5 i hi
    rw [hu] at this
    rw [← this, ← hc, Addr.add_add]
  · obtain ⟨i, hi⟩ := List.getElem?_of_mem hx
    obtain ⟨_, _, _, h6⟩ := hq i x hi
    exact h6
theorem Op.st1 {t : TypeId} {f0 : Field} {α β : Type} {d : Kd α} {G : α → Prop} (ht : P.underlying t = some (.struct #[f0])) (g : β → α) (gi : α → β) (hg : ∀ x, g (gi x) = x) (ho : f0.offset = 0) (h0 : P.cellsOf f0.type = d.sz) (hn : P.cellsOf t = d.sz) (he : Op P W f0.type d G) : Op P W t (Kd.iso d g) (fun x => G (g x)) := by
  intro H enc fuel cs x h hw
  obtain ⟨y0, n, rfl, hl, h1⟩ := trod_struct1 ht h
  rw [DataW.weights, ht] at hw
  rw [ho, List.drop_zero, h0, ← hn, ← hl, List.take_length] at h1
  obtain ⟨p, hp, hG⟩ := he H enc n _ _ h1 (fun n hn => hw n (List.mem_append.2 (Or.inl hn)))
  exact ⟨gi p, by show d.K W (g (gi p)) cs; rw [hg]; exact hp, by show G (g (gi p)); rw [hg]; exact hG⟩
theorem Op.st2 {t : TypeId} {f0 f1 : Field} {α β γ : Type} {d0 : Kd α} {d1 : Kd β} {G0 : α → Prop} {G1 : β → Prop} (ht : P.underlying t = some (.struct #[f0, f1])) (g : γ → α × β) (gi : α → β → γ) (hg : ∀ x y, g (gi x y) = (x, y)) (ho : f0.offset = 0) (ho1 : f1.offset = d0.sz) (h0 : P.cellsOf f0.type = d0.sz) (h1 : P.cellsOf f1.type = d1.sz) (hn : P.cellsOf t = d0.sz + d1.sz)
    (he0 : Op P W f0.type d0 G0) (he1 : Op P W f1.type d1 G1) : Op P W t (Kd.iso (Kd.pair d0 d1) g) (fun x => G0 (g x).1 ∧ G1 (g x).2) := by
  intro H enc fuel cs x h hw
  obtain ⟨y0, y1, n, rfl, hl, e0, e1⟩ := trod_struct2 ht h
  rw [DataW.weights, ht] at hw
  rw [ho, List.drop_zero, h0] at e0
  rw [ho1, h1] at e1
  obtain ⟨p, hp, hG⟩ := he0 H enc n _ _ e0 (fun n hn => hw n (List.mem_append.2 (Or.inl hn)))
  obtain ⟨q, hq, hG1⟩ := he1 H enc n _ _ e1 (fun n hn => hw n (List.mem_append.2 (Or.inr (List.mem_append.2 (Or.inl hn)))))
  have hcs : cs = cs.take d0.sz ++ (cs.drop d0.sz).take d1.sz := by
    rw [List.take_of_length_le (l := cs.drop d0.sz) (by rw [List.length_drop]; omega), List.take_append_drop]
  refine ⟨gi p q, ⟨_, _, hcs, ?_, ?_⟩, ?_, ?_⟩
  · show d0.K W (g (gi p q)).1 _
    rw [hg]; exact hp
  · show d1.K W (g (gi p q)).2 _
    rw [hg]; exact hq
  · show G0 (g (gi p q)).1
    rw [hg]; exact hG
  · show G1 (g (gi p q)).2
    rw [hg]; exact hG1
theorem Op.arr2 {t e : TypeId} {α γ : Type} {d : Kd α} {G : α → Prop} (ht : P.underlying t = some (.array 2 e)) (g : γ → α × α) (gi : α → α → γ) (hg : ∀ x y, g (gi x y) = (x, y)) (h0 : P.cellsOf e = d.sz) (hn : P.cellsOf t = d.sz + d.sz)
    (he : Op P W e d G) : Op P W t (Kd.iso (Kd.pair d d) g) (fun x => G (g x).1 ∧ G (g x).2) := by
  intro H enc fuel cs x h hw
  obtain ⟨xs, n, _, rfl, hl, hlen, hf⟩ := DataW.trod_array ht h
  match xs, hlen with
  | [y0, y1], _ =>
    rw [DataW.weights, ht] at hw
    have e0 := hf 0 (by omega)
    have e1 := hf 1 (by omega)
    rw [Nat.zero_mul, List.drop_zero, h0] at e0
    rw [Nat.one_mul, h0] at e1
    obtain ⟨p, hp, hG⟩ := he H enc n _ _ e0 (fun n hn => hw n (List.mem_append.2 (Or.inl hn)))
    obtain ⟨q, hq, hG1⟩ := he H enc n _ _ e1 (fun n hn => hw n (List.mem_append.2 (Or.inr (List.mem_append.2 (Or.inl hn)))))
    have hcs : cs = cs.take d.sz ++ (cs.drop d.sz).take d.sz := by
      rw [List.take_of_length_le (l := cs.drop d.sz) (by rw [List.length_drop]; omega), List.take_append_drop]
    refine ⟨gi p q, ⟨_, _, hcs, ?_, ?_⟩, ?_, ?_⟩
    · show d.K W (g (gi p q)).1 _
      rw [hg]; exact hp
    · show d.K W (g (gi p q)).2 _
      rw [hg]; exact hq
    · show G (g (gi p q)).1
      rw [hg]; exact hG
    · show G (g (gi p q)).2
      rw [hg]; exact hG1
/-- Four fields, of these many cells -/
theorem Op.st4 {t : TypeId} {f0 f1 f2 f3 : Field} {α β γ δ : Type} {d0 : Kd α} {d1 : Kd β} {d2 : Kd γ} {d3 : Kd δ} {G0 : α → Prop} {G1 : β → Prop} {G2 : γ → Prop} {G3 : δ → Prop} (ht : P.underlying t = some (.struct #[f0, f1, f2, f3]))
    (o0 : f0.offset = 0) (o1 : f1.offset = d0.sz) (o2 : f2.offset = d0.sz + d1.sz) (o3 : f3.offset = d0.sz + d1.sz + d2.sz) (c0 : P.cellsOf f0.type = d0.sz) (c1 : P.cellsOf f1.type = d1.sz) (c2 : P.cellsOf f2.type = d2.sz) (c3 : P.cellsOf f3.type = d3.sz)
    (he0 : Op P W f0.type d0 G0) (he1 : Op P W f1.type d1 G1) (he2 : Op P W f2.type d2 G2) (he3 : Op P W f3.type d3 G3)
    {H : Type} {enc : TypeId × Value → H} {fuel : Nat} {cs : List Value} {x : DataW H × List MemPlace} (hn : P.cellsOf t = d0.sz + d1.sz + d2.sz + d3.sz) (h : DataW.trod enc P W 0 (fun _ => true) true fuel t cs = some x) (hw : ∀ n ∈ DataW.weights P t x.1, n ≤ reachBytes) :
    ∃ p q r s k0 k1 k2 k3, cs = k0 ++ (k1 ++ (k2 ++ k3)) ∧ d0.K W p k0 ∧ G0 p ∧ d1.K W q k1 ∧ G1 q ∧ d2.K W r k2 ∧ G2 r ∧ d3.K W s k3 ∧ G3 s := by
  obtain ⟨xs, n, _, rfl, hl, hlen, hf⟩ := DataW.trod_struct ht h
  match xs, hlen with
  | [y0, y1, y2, y3], _ =>
    rw [DataW.weights, ht] at hw
    have e0 := hf 0 f0 rfl
    have e1 := hf 1 f1 rfl
    have e2 := hf 2 f2 rfl
    have e3 := hf 3 f3 rfl
    rw [o0, List.drop_zero, c0] at e0
    rw [o1, c1] at e1
    rw [o2, c2] at e2
    rw [o3, c3] at e3
    obtain ⟨p, hp, hG⟩ := he0 H enc n _ _ e0 (fun n hn => hw n (List.mem_append.2 (Or.inl hn)))
    obtain ⟨q, hq, hG1⟩ := he1 H enc n _ _ e1 (fun n hn => hw n (List.mem_append.2 (Or.inr (List.mem_append.2 (Or.inl hn)))))
    obtain ⟨r, hr, hG2⟩ := he2 H enc n _ _ e2 (fun n hn => hw n (List.mem_append.2 (Or.inr (List.mem_append.2 (Or.inr (List.mem_append.2 (Or.inl hn)))))))
    obtain ⟨s, hs, hG3⟩ := he3 H enc n _ _ e3 (fun n hn => hw n (List.mem_append.2 (Or.inr (List.mem_append.2 (Or.inr (List.mem_append.2 (Or.inr (List.mem_append.2 (Or.inl hn)))))))))
    refine ⟨p, q, r, s, _, _, _, _, ?_, hp, hG, hq, hG1, hr, hG2, hs, hG3⟩
    rw [List.take_of_length_le (l := cs.drop (d0.sz + d1.sz + d2.sz)) (by rw [List.length_drop]; omega), ← List.drop_drop (i := d2.sz) (j := d0.sz + d1.sz), List.take_append_drop, ← List.drop_drop (i := d1.sz) (j := d0.sz), List.take_append_drop, List.take_append_drop]
/-- An argument that is a slice -/
theorem Op.arg_slice {t e : TypeId} {α : Type} {d : Kd α} {G : List α → Prop} (ht : P.underlying t = some (.slice e)) (ho : Op P W t (Kd.slice e d) G) {H : Type} {enc : TypeId × Value → H} {base : Nat} {v : Value} {x : DataW H} {ps : List MemPlace}
    (hv : Value.okWide P W .any base t v) (h : DataW.Trod enc P W 0 (fun _ => true) true t v x ps) (hw : ∀ n ∈ DataW.weights P t x, n ≤ reachBytes) : ∃ A c l, v = .slice A l.length c ∧ l.length ≤ c ∧ d.C W A l.length l ∧ G l := by
  obtain ⟨a, len, cap, rfl⟩ := okWide_slice ht hv
  obtain ⟨m, hm⟩ := h
  obtain ⟨l, ⟨A, c, e, hlc, hC⟩, hG⟩ := ho H enc m _ _ hm hw
  simp [Value.cells] at e
  obtain ⟨rfl, rfl, rfl⟩ := e
  exact ⟨_, _, l, rfl, hlc, hC, hG⟩
/-- An argument that is a struct -/
theorem Op.arg_struct {t : TypeId} {fs : Array Field} {α : Type} {d : Kd α} {G : α → Prop} (ht : P.underlying t = some (.struct fs)) (ho : Op P W t d G) {H : Type} {enc : TypeId × Value → H} {base : Nat} {v : Value} {x : DataW H} {ps : List MemPlace}
    (hv : Value.okWide P W .any base t v) (h : DataW.Trod enc P W 0 (fun _ => true) true t v x ps) (hw : ∀ n ∈ DataW.weights P t x, n ≤ reachBytes) : ∃ (cs : List Value) (p : α), v = .agg cs.toArray ∧ d.K W p cs ∧ G p := by
  obtain ⟨cs, rfl, _⟩ := okWide_struct ht hv
  obtain ⟨m, hm⟩ := h
  obtain ⟨p, hK, hG⟩ := ho H enc m _ _ hm hw
  exact ⟨_, p, rfl, hK, hG⟩
end Go.Proofs.Ytahnkldkbbkflaa.Opn
