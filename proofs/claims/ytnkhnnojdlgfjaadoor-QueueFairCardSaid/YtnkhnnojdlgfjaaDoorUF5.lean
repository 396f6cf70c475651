/- Parts of the proof, joined: Tm. -/
import Derived.Test.YtnkhnnojdlgfjaaDoorUF3
import Derived.Test.YtnkhnnojdlgfjaaDoorUF4
import Derived.WalkKit
import Derived.KernelRfl
import Derived.Below
import Derived.Test.YtnkhnnojdlgfjaaDoorProg
import Derived.Lib.Hide
import Derived.Outline
import Derived.WalkSpells
import Derived.RegionTactic
import Derived.ChangeAlike
import Derived.BigRegion
import Derived.Deep.QuietTactic
import Derived.BigQuiet
import Derived.StillTailTactics
import Derived.IntWalk
namespace Go.Proofs.YtnkhnnojdlgfjaaDoor.Tm
open Go.RowKit Go Go.Proofs Go.Proofs.YtnkhnnojdlgfjaaDoor Go.Proofs.YtnkhnnojdlgfjaaDoor.Tr Go.Proofs.YtnkhnnojdlgfjaaDoorW.PrintWords Go.Proofs.YtnkhnnojdlgfjaaDoorW.PrintLast Go.Proofs.YtnkhnnojdlgfjaaDoorW.PrintMore
set_option linter.unusedVariables false
set_option linter.unusedSimpArgs false
def nv (x : Nd) : List Value := [.bool x.inn, .bool x.red, .int .u64 x.v, .int .i64 x.l, .int .i64 x.r, .int .i64 x.u]
def flat : List Nd → List Value
  | [] => []
  | x :: t => nv x ++ flat t
theorem flat_length : ∀ l : List Nd, (flat l).length = l.length * 6
  | [] => rfl
  | x :: t => by rw [flat, List.length_append, flat_length t, List.length_cons]; show 6 + t.length * 6 = _; omega
theorem flat_append : ∀ (a b : List Nd), flat (a ++ b) = flat a ++ flat b
  | [], b => rfl
  | x :: t, b => by rw [List.cons_append, flat, flat, flat_append t b, List.append_assoc]
theorem flat_get : ∀ (l : List Nd) (i j : Nat), i < l.length → j < 6 → (flat l)[i * 6 + j]? = (nv (l.getD i emp))[j]?
  | [], i, j, h, _ => by simp at h
  | x :: t, 0, j, h, hj => by
    rw [flat, Nat.zero_mul, Nat.zero_add, List.getElem?_append_left (by show j < 6; exact hj)]; rfl
  | x :: t, i + 1, j, h, hj => by
    rw [flat, List.getElem?_append_right (by show 6 ≤ (i + 1) * 6 + j; omega), show (i + 1) * 6 + j - (nv x).length = i * 6 + j by show (i + 1) * 6 + j - 6 = _; omega, flat_get t i j (by simpa using h) hj]
    rfl
theorem flat_set : ∀ (l : List Nd) (i j : Nat) (y : Nd) (u : Value), i < l.length → j < 6 → (nv (l.getD i emp)).set j u = nv y → (flat l).set (i * 6 + j) u = flat (l.set i y)
  | [], i, j, _, _, h, _, _ => by simp at h
  | x :: t, 0, j, y, u, h, hj, e => by
    rw [flat, Nat.zero_mul, Nat.zero_add, List.set_append_left _ _ (by show j < 6; exact hj), List.set_cons_zero, flat]
    exact congrArg (· ++ flat t) e
  | x :: t, i + 1, j, y, u, h, hj, e => by
    rw [flat, List.set_append_right _ _ (by show 6 ≤ (i + 1) * 6 + j; omega), show (i + 1) * 6 + j - (nv x).length = i * 6 + j by show (i + 1) * 6 + j - 6 = _; omega, flat_set t i j y u (by simpa using h) hj e]
    rfl
def objV (A : Option Addr) (n c : Nat) (rt : Int) (g : Nat) : Array Value := #[.slice A n c, .int .i64 rt, .func (.func 61) #[.pointer (some ⟨g, 0, none⟩)] #[], .func (.func 64) #[.pointer (some ⟨g, 0, none⟩)] #[]]
structure Wk (A : Option Addr) (c : Nat) (w : World) (g b : Nat) (t : St) : Prop where mk ::
  obj : w.heap[g]? = some (.cells (objV A t.ns.length c t.rt g) 88 (0, 0))
  ne : g ≠ b
  len : t.ns.length ≤ 1000000
  nodes : 0 < t.ns.length → A = some ⟨b, 0, none⟩ ∧ ∃ (cur : Array Value) (rs : List Value), w.heap[b]? = some (.cells cur 74 (0, 0)) ∧ cur.toList = flat t.ns ++ rs
  cap : 0 < t.ns.length → t.ns.length ≤ c ∧ c ≤ maxLen ∧ ∀ cur : Array Value, w.heap[b]? = some (.cells cur 74 (0, 0)) → cur.size = c * 6
variable {A : Option Addr} {c : Nat} {w w1 : World} {g b : Nat} {t : St}
theorem Wk.c0 (h : Wk A c w g b t) : w.cell? ⟨g, 0, none⟩ = some (.slice A t.ns.length c) := by rw [blk_cell h.obj]; rfl
theorem Wk.c1 (h : Wk A c w g b t) : w.cell? ⟨g, 1, none⟩ = some (.int .i64 t.rt) := by rw [blk_cell h.obj]; rfl
theorem Wk.c2 (h : Wk A c w g b t) : w.cell? ⟨g, 2, none⟩ = some (.func (.func 61) #[.pointer (some ⟨g, 0, none⟩)] #[]) := by rw [blk_cell h.obj]; rfl
theorem Wk.c3 (h : Wk A c w g b t) : w.cell? ⟨g, 3, none⟩ = some (.func (.func 64) #[.pointer (some ⟨g, 0, none⟩)] #[]) := by rw [blk_cell h.obj]; rfl
theorem Wk.frozen (h : Wk A c w g b t) (i : Nat) : w.frozen? ⟨g, i, none⟩ = false := blk_frozen h.obj i
theorem Wk.at_ (h : Wk A c w g b t) (x j : Nat) (hx : x < t.ns.length) (hj : j < 6) : w.cell? ⟨b, x * 6 + j, none⟩ = (nv (gn t x))[j]? := by
  obtain ⟨_, cur, rs, h1, h2⟩ := h.nodes (by omega)
  rw [blk_cell h1, ← Array.getElem?_toList, h2, List.getElem?_append_left (by rw [flat_length]; omega), flat_get _ _ _ hx hj]
  rfl
theorem Wk.frozenN (h : Wk A c w g b t) (h0 : 0 < t.ns.length) (i : Nat) : w.frozen? ⟨b, i, none⟩ = false := by
  obtain ⟨_, cur, rs, h1, h2⟩ := h.nodes h0
  exact blk_frozen h1 i
theorem Wk.addr (h : Wk A c w g b t) (h0 : 0 < t.ns.length) : A = some ⟨b, 0, none⟩ := (h.nodes h0).1
def sd (s : Bool) : Int := if s then 1 else 0
set_option maxHeartbeats 2000000 in
set_option maxRecDepth 100000 in
theorem left_ (h : Wk A c w g b t) (x : Int) (h0 : 0 ≤ x) (hx : x < t.ns.length) :
    Calls Tryd.prog 61 #[.pointer (some ⟨g, 0, none⟩), .int .i64 x] w fun e w' => e = .returned (.pointer (some ⟨b, x.toNat * 6 + 3, none⟩)) ∧ w' = w := by
  have c0 := h.c0
  rw [h.addr (by omega)] at c0
  have H := Aside0.mk h
  clear h
  go_enter Tryd.func61, Tryd.ntmps61
  go_wp2
  go_ret
  exact ⟨rfl, rfl⟩
set_option maxHeartbeats 2000000 in
set_option maxRecDepth 100000 in
theorem right_ (h : Wk A c w g b t) (x : Int) (h0 : 0 ≤ x) (hx : x < t.ns.length) :
    Calls Tryd.prog 64 #[.pointer (some ⟨g, 0, none⟩), .int .i64 x] w fun e w' => e = .returned (.pointer (some ⟨b, x.toNat * 6 + 4, none⟩)) ∧ w' = w := by
  have c0 := h.c0
  rw [h.addr (by omega)] at c0
  have H := Aside0.mk h
  clear h
  go_enter Tryd.func64, Tryd.ntmps64
  go_wp2
  go_ret
  exact ⟨rfl, rfl⟩
theorem Wk.fl (h : Wk A c w g b t) (x : Int) (h0 : 0 ≤ x) (hx : x < t.ns.length) : w.cell? ⟨b, x.toNat * 6 + 3, none⟩ = some (.int .i64 (kidA t x false)) := h.at_ x.toNat 3 (by omega) (by omega)
theorem Wk.fr (h : Wk A c w g b t) (x : Int) (h0 : 0 ≤ x) (hx : x < t.ns.length) : w.cell? ⟨b, x.toNat * 6 + 4, none⟩ = some (.int .i64 (kidA t x true)) := h.at_ x.toNat 4 (by omega) (by omega)
theorem Wk.fu (h : Wk A c w g b t) (x : Int) (h0 : 0 ≤ x) (hx : x < t.ns.length) : w.cell? ⟨b, x.toNat * 6 + 5, none⟩ = some (.int .i64 (upA t x)) := h.at_ x.toNat 5 (by omega) (by omega)
theorem Wk.fred (h : Wk A c w g b t) (x : Int) (h0 : 0 ≤ x) (hx : x < t.ns.length) : w.cell? ⟨b, x.toNat * 6 + 1, none⟩ = some (.bool (redA t x)) := by
  rw [h.at_ x.toNat 1 (by omega) (by omega)]
  show some (Value.bool (gn t x.toNat).red) = some (.bool (decide (0 ≤ x) && (gn t x.toNat).red))
  rw [decide_eq_true h0]; rfl
theorem Wk.fin (h : Wk A c w g b t) (x : Int) (h0 : 0 ≤ x) (hx : x < t.ns.length) : w.cell? ⟨b, x.toNat * 6, none⟩ = some (.bool (gn t x.toNat).inn) := h.at_ x.toNat 0 (by omega) (by omega)
theorem Wk.fv (h : Wk A c w g b t) (x : Int) (h0 : 0 ≤ x) (hx : x < t.ns.length) : w.cell? ⟨b, x.toNat * 6 + 2, none⟩ = some (.int .u64 (gn t x.toNat).v) := h.at_ x.toNat 2 (by omega) (by omega)
set_option maxHeartbeats 2000000 in
set_option maxRecDepth 100000 in
theorem up_ (h : Wk A c w g b t) (x : Int) (h0 : 0 ≤ x) (hx : x < t.ns.length) :
    Calls Tryd.prog 63 #[.pointer (some ⟨g, 0, none⟩), .int .i64 x] w fun e w' => e = .returned (.int .i64 (upA t x)) ∧ w' = w := by
  have c0 := h.c0
  rw [h.addr (by omega)] at c0
  have c1 := h.fu x h0 hx
  have H := Aside0.mk h
  clear h
  go_enter Tryd.func63, Tryd.ntmps63
  go_wp2
  go_ret
  exact ⟨rfl, rfl⟩
set_option maxHeartbeats 2000000 in
set_option maxRecDepth 100000 in
theorem red_ (h : Wk A c w g b t) (x : Int) (hx : x < t.ns.length) :
    Calls Tryd.prog 62 #[.pointer (some ⟨g, 0, none⟩), .int .i64 x] w fun e w' => e = .returned (.bool (redA t x)) ∧ w' = w := by
  by_cases h0 : 0 ≤ x
  · have c0 := h.c0
    rw [h.addr (by omega)] at c0
    have c1 := h.fred x h0 hx
    have H := Aside0.mk h
    clear h
    go_enter Tryd.func62, Tryd.ntmps62
    go_wp2
    go_ret
    exact ⟨rfl, rfl⟩
  · have e : redA t x = false := by unfold redA; rw [decide_eq_false h0]; rfl
    rw [e]
    have h1 : decide (0 ≤ x) = false := decide_eq_false h0
    clear h e
    go_enter Tryd.func62, Tryd.ntmps62
    go_wp2
    go_ret
    exact ⟨rfl, rfl⟩
set_option maxHeartbeats 2000000 in
set_option maxRecDepth 100000 in
theorem kid_ (h : Wk A c w g b t) (x : Int) (h0 : 0 ≤ x) (hx : x < t.ns.length) (s : Bool) :
    Calls Tryd.prog 53 #[.pointer (some ⟨g, 0, none⟩), .int .i64 x, .int .i64 (sd s)] w fun e w' => e = .returned (.int .i64 (kidA t x s)) ∧ w' = w := by
  have H := Aside0.mk h
  cases s with
  | false =>
    have c2 := h.c2
    have c1 := h.fl x h0 hx
    clear h
    change Calls Tryd.prog 53 #[.pointer (some ⟨g, 0, none⟩), .int .i64 x, .int .i64 0] w _
    go_enter Tryd.func53, Tryd.ntmps53
    go_wp2_with (go_at_call 61; refine (left_ H.out x h0 hx).mono ?_; rintro e w' ⟨rfl, rfl⟩)
    go_ret
    exact ⟨rfl, rfl⟩
  | true =>
    have c2 := h.c3
    have c1 := h.fr x h0 hx
    clear h
    change Calls Tryd.prog 53 #[.pointer (some ⟨g, 0, none⟩), .int .i64 x, .int .i64 1] w _
    go_enter Tryd.func53, Tryd.ntmps53
    go_wp2_with (go_at_call 64; refine (right_ H.out x h0 hx).mono ?_; rintro e w' ⟨rfl, rfl⟩)
    go_ret
    exact ⟨rfl, rfl⟩
set_option maxHeartbeats 2000000 in
set_option maxRecDepth 100000 in
theorem on_ (h : Wk A c w g b t) (x : Int) (h0 : 0 ≤ x) (hx : x < t.ns.length) (hu : upA t x < t.ns.length) :
    Calls Tryd.prog 60 #[.pointer (some ⟨g, 0, none⟩), .int .i64 x] w fun e w' => e = .returned (.int .i64 (sd (onA t x))) ∧ w' = w := by
  have H := Aside0.mk h
  by_cases hp : 0 ≤ upA t x
  · have c1 := h.fr (upA t x) hp hu
    have e : onA t x = decide (kidA t (upA t x) true = x) := by
      show decide (0 ≤ upA t x ∧ kidA t (upA t x) true = x) = _
      simp [hp]
    rw [e]
    clear h e
    generalize hy : kidA t (upA t x) true = y at c1
    have HU := Aside0.mk hu
    by_cases hq : y = x
    · subst hq
      go_enter Tryd.func60, Tryd.ntmps60
      go_wp2_with (first | (go_at_call 63; refine (up_ H.out y h0 hx).mono ?_; rintro e w' ⟨rfl, rfl⟩) | (go_at_call 64; refine (right_ H.out (upA t y) hp hu).mono ?_; rintro e w' ⟨rfl, rfl⟩))
      go_ret
      exact ⟨by simp [sd], rfl⟩
    · have hq1 : (y == x) = false := by simpa using hq
      go_enter Tryd.func60, Tryd.ntmps60
      go_wp2_with (first | (go_at_call 63; refine (up_ H.out x h0 hx).mono ?_; rintro e w' ⟨rfl, rfl⟩) | (go_at_call 64; refine (right_ H.out (upA t x) hp hu).mono ?_; rintro e w' ⟨rfl, rfl⟩))
      go_ret
      exact ⟨by simp [sd, hq], rfl⟩
  · have e : onA t x = false := by
      show decide (0 ≤ upA t x ∧ kidA t (upA t x) true = x) = _
      simp [hp]
    rw [e]
    have h1 : decide (0 ≤ upA t x) = false := decide_eq_false hp
    clear h e
    go_enter Tryd.func60, Tryd.ntmps60
    go_wp2_with (go_at_call 63; refine (up_ H.out x h0 hx).mono ?_; rintro e w' ⟨rfl, rfl⟩)
    go_ret
    exact ⟨rfl, rfl⟩
end Go.Proofs.YtnkhnnojdlgfjaaDoor.Tm
