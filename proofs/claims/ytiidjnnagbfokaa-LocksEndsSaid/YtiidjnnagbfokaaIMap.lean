/- A map of int to int of the call's own, told as a function. No condition. Written by hand. -/
import Derived.Test.YtiidjnnagbfokaaWMore
import Derived.Test.YtiidjnnagbfokaaProg
import Derived.Maps.OwnSet
import Derived.Maps.OwnOps
import Derived.Maps.Views
import Derived.KernelRfl
namespace Go.Proofs.Ytiidjnnagbfokaa.IM
open Go Go.Maps Go.RowKit Go.Proofs Go.Proofs.Ytiidjnnagbfokaa
set_option linter.unusedVariables false
def inI (x : Int) : Prop := -9223372036854775808 ≤ x ∧ x ≤ 9223372036854775807
theorem wf_of {x : Int} (h : inI x) : (Lit.int .i64 x).wf = true := by
  obtain ⟨h1, h2⟩ := h
  simp [Lit.wf, IntKind.min, IntKind.max, IntKind.signed, IntKind.bits]
  omega
theorem of_wf {x : Int} (h : (Lit.int .i64 x).wf = true) : inI x := by
  simp [Lit.wf, IntKind.min, IntKind.max, IntKind.signed, IntKind.bits] at h
  unfold inI
  omega
theorem keyed : Keyed Try.prog 3 := int_keyed Try.underlying3
theorem zero3 (w : World) : (zeroValue 3).run Try.prog w = .ok (.int .i64 0) w := by kernel_rfl
structure MapI (w : World) (b n : Nat) (f : Int → Option Int) : Prop where mk ::
  out : ∃ D : DataW Unit, w.ownsMap Try.prog 3 (plainElem Try.prog 3) b n D ∧ ∀ x, inI x → Maps.has D (.int .i64 x) = (f x).isSome ∧ D.atKey (.int .i64 x) (.lit (.int .i64 0)) = .lit (.int .i64 ((f x).getD 0))
theorem MapI.made (w : World) : MapI (w.alloc (.map #[] 0)) w.heap.size 0 (fun _ => none) :=
  ⟨_, World.ownsMap_made w _ _ _, fun x _ => ⟨rfl, rfl⟩⟩
theorem MapI.grown {w w' : World} {b n : Nat} {f : Int → Option Int} (h : MapI w b n f) {row : Option Nat} (hg : w.grownBy w' row) (hne : some b ≠ row) : MapI w' b n f := by
  obtain ⟨D, h1, h2⟩ := h.out
  exact ⟨D, h1.kept hg hne, h2⟩
theorem MapI.lt {w : World} {b n : Nat} {f : Int → Option Int} (h : MapI w b n f) : b < w.heap.size := by
  obtain ⟨D, h1, h2⟩ := h.out
  exact h1.lt
theorem MapI.moved {w w' : World} {b n : Nat} {f : Int → Option Int} (h : MapI w b n f) (hb : w'.heap[b]? = w.heap[b]?) : MapI w' b n f := by
  obtain ⟨D, ⟨es, clock, he, F, hs, hD⟩, h2⟩ := h.out
  exact ⟨D, ⟨es, clock, hb.trans he, F, hs, hD⟩, h2⟩
section
variable {w : World} {ops : Array Oper} {rest : List Oper} {o : Oper} {a : Act} {Q : Exit → Act → World → Prop} {b n : Nat} {f : Int → Option Int}
theorem look (h : MapI w b n f) (hg : o.guard = none) (m x : Operand) (hop : o.op = Op.lookup 58 m x true) (hm : a.eval m = .map (some b)) (k : Int) (hk : inI k) (hx : a.eval x = .int .i64 k)
    (hK : inI ((f k).getD 0) → wpList Try.prog ops Q rest (a.put o.dst (.tuple #[.int .i64 ((f k).getD 0), .bool (f k).isSome])) w) : wpList Try.prog ops Q (o :: rest) a w := by
  obtain ⟨D, h1, h2⟩ := h.out
  obtain ⟨hh, hat⟩ := h2 k hk
  refine wpList_lookup_own_ok_int w hg m x 58 hop 3 3 .i64 keyed Try.underlying58 Try.underlying3 (zero3 w) b n D hm h1 _ (.int .i64 k) hx (keyOf_int_mk Try.underlying3 (wf_of hk)) ?_
  intro c hc hwf
  rw [hat] at hc
  injection hc with hc
  injection hc with _ hc
  rw [← hc] at hwf ⊢
  rw [hh]
  exact hK (of_wf hwf)
theorem store (h : MapI w b n f) (hg : o.guard = none) (m x v : Operand) (hop : o.op = Op.mapUpdate 58 m x v) (hm : a.eval m = .map (some b)) (hn : n < maxLen) (k u : Int) (hk : inI k) (hu : inI u) (hx : a.eval x = .int .i64 k) (hv : a.eval v = .int .i64 u)
    (hK : ∀ w', MapI w' b (n + 1) (fun y => if y = k then some u else f y) → w.grownBy w' (some b) → wpList Try.prog ops Q rest (a.put o.dst undef) w') : wpList Try.prog ops Q (o :: rest) a w := by
  obtain ⟨D, h1, h2⟩ := h.out
  refine wpList_mapUpdate_own w hg m x v 58 hop 3 3 keyed Try.underlying58 (plainElem Try.prog 3) b n D hm h1 hn _ _ (.int .i64 k) hx hv (keyOf_int_mk Try.underlying3 (wf_of hk)) _ [] (plainElem_int Try.underlying3 (wf_of hu)) ?_
  intro w' hw hgr
  refine hK w' ⟨_, hw, fun y hy => ?_⟩ hgr
  by_cases e : y = k
  · subst e
    have hl : WideAt.IsKeyLit (.int .i64 y) := by simp [WideAt.IsKeyLit]
    rw [if_pos rfl]
    exact ⟨has_put_same h1.isMap hl _, atKey_put_same h1.isMap hl _ _⟩
  · have hne : (Lit.int .i64 y) ≠ .int .i64 k := fun he => by injection he with _ he; exact e he
    rw [if_neg e, has_put_other hne, atKey_put_other hne]
    exact h2 y hy
theorem drop (h : MapI w b n f) (hg : o.guard = none) (m x : Operand) (hop : o.op = Op.call { callee := Callee.builtin Builtin.delete, args := #[m, x], argTypes := #[58, 3] }) (hm : a.eval m = .map (some b)) (k : Int) (hk : inI k) (hx : a.eval x = .int .i64 k)
    (hK : ∀ w', MapI w' b n (fun y => if y = k then none else f y) → w.grownBy w' (some b) → wpList Try.prog ops Q rest (a.put o.dst (.tuple #[])) w') : wpList Try.prog ops Q (o :: rest) a w := by
  obtain ⟨D, h1, h2⟩ := h.out
  refine wpList_delete_own w hg m x 58 3 hop 3 keyed Try.underlying58 (plainElem Try.prog 3) b n D hm h1 _ (.int .i64 k) hx (keyOf_int_mk Try.underlying3 (wf_of hk)) ?_
  intro w' hw hgr
  refine hK w' ⟨_, hw, fun y hy => ?_⟩ hgr.grown
  by_cases e : y = k
  · subst e
    rw [if_pos rfl]
    exact ⟨has_del_same, atKey_del_same _⟩
  · have hne : (Lit.int .i64 y) ≠ .int .i64 k := fun he => by injection he with _ he; exact e he
    rw [if_neg e, has_del_other hne, atKey_del_other hne]
    exact h2 y hy
end
end Go.Proofs.Ytiidjnnagbfokaa.IM
