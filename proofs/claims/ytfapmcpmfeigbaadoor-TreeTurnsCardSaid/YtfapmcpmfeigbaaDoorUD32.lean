/- Parts of the proof, joined: QTreeTurnsx0, QTreeTurnsx2, QTreeTurnsx1. -/
import Derived.Test.YtfapmcpmfeigbaaDoorProg
import Derived.Below
import Derived.Deep.Draws
import Derived.Deep.AppendLies
import Derived.Maps.AppendAt
import Derived.OwnWalk
import Derived.Laws.BytesArg
import Derived.Laws.MakeOwn
import Derived.Laws.OwnMore
import Derived.Deep.OwnRows
import Derived.Tactics
import Derived.Lib.ConvBytes
import Derived.Laws.Slices
import Derived.WalkKit
import Derived.KernelRfl
import Derived.RowKit3
import Derived.Deep.LoopGhost
import Derived.Deep.QuietTactic
import Derived.BigQuiet
import Derived.WideLaws
import Derived.Deep.DeepCutAuto
import Derived.Deep.CutBlock
import Derived.Deep.RegionHeld3
import Derived.Laws.Rows
import Derived.Lib.AppendStr
import Derived.ArgAppend
import Derived.Laws.IdiomCopy
import Derived.OrdersHeld
import Derived.Laws.BitsLemmas
import Derived.RowKit
import Derived.Test.YtfapmcpmfeigbaaDoorUD17
import Derived.Test.YtfapmcpmfeigbaaDoorUD14
import Derived.Test.YtfapmcpmfeigbaaDoorUD16
import Derived.Test.YtfapmcpmfeigbaaDoorUD19
import Derived.Test.YtfapmcpmfeigbaaDoorUD15
import Derived.Test.YtfapmcpmfeigbaaDoorUD28
import Derived.Test.YtfapmcpmfeigbaaDoorUD30
import Derived.Test.YtfapmcpmfeigbaaDoorUD26
import Derived.Test.YtfapmcpmfeigbaaDoorUD31
import Derived.Test.YtfapmcpmfeigbaaDoorUD1
import Derived.Test.YtfapmcpmfeigbaaDoorUD2
import Derived.Test.YtfapmcpmfeigbaaDoorUD12
import Derived.Test.YtfapmcpmfeigbaaDoorUD3
import Derived.Test.YtfapmcpmfeigbaaDoorUD9
section
namespace Go.Proofs.YtfapmcpmfeigbaaDoor.QTreeTurns
open Go.RowKit Go.Proofs.YtfapmcpmfeigbaaDoorW.PrintWords Go.Proofs.YtfapmcpmfeigbaaDoorW.PrintLast Go.Proofs.YtfapmcpmfeigbaaDoorW.PrintMore
attribute [local go_sem] kR kP vN vM jP jO kQ kN   -- for this text's walks alone
set_option linter.unusedVariables false
set_option linter.unusedSimpArgs false
def errW : Option Int → Value
 | none => .nilIface
 | some c => .iface 0 (.int .i64 c)
theorem xI : errW none = .nilIface := rfl
theorem xH (c : Int) : errW (some c) = .iface 0 (.int .i64 c) := rfl
theorem info57 : (Tryd.prog.info? 57).map (fun i => (i.zero, i.size, i.bytes)) = some (some (.agg #[(.bool false), (.bool false), (.int .u64 0), (.int .i64 0), (.int .i64 0), (.int .i64 0)]), 6, 40) := by kernel_rfl
structure S57 where
 f0 : Bool
 f1 : Bool
 f2 : Int
 f3 : Int
 f4 : Int
 f5 : Int
def z57 : S57 := ⟨false, false, (0 : Int), (0 : Int), (0 : Int), (0 : Int)⟩
def k57 : Kd S57 := Kd.iso (Kd.pair Kd.bool (Kd.pair Kd.bool (Kd.pair (Kd.int .u64) (Kd.pair (Kd.int .i64) (Kd.pair (Kd.int .i64) (Kd.int .i64)))))) (fun x : S57 => (x.f0, x.f1, x.f2, x.f3, x.f4, x.f5))
theorem k57_open {w : World} {x : S57} {cs : List Value} (h : k57.K w x cs) : cs = [.bool x.f0, .bool x.f1, .int .u64 x.f2, .int .i64 x.f3, .int .i64 x.f4, .int .i64 x.f5] := by
 obtain ⟨_, _, rfl, rfl, ⟨_, _, rfl, rfl, ⟨_, _, rfl, rfl, ⟨_, _, rfl, rfl, ⟨_, _, rfl, rfl, rfl⟩⟩⟩⟩⟩ := h
 exact rfl
theorem zbc (w : World) (base : Nat) (ok : Nat → Prop) (x : S57)  : k57.M w base ok x [.bool x.f0, .bool x.f1, .int .u64 x.f2, .int .i64 x.f3, .int .i64 x.f4, .int .i64 x.f5] := ⟨[.bool x.f0], [.bool x.f1, .int .u64 x.f2, .int .i64 x.f3, .int .i64 x.f4, .int .i64 x.f5], rfl, rfl, ⟨[.bool x.f1], [.int .u64 x.f2, .int .i64 x.f3, .int .i64 x.f4, .int .i64 x.f5], rfl, rfl, ⟨[.int .u64 x.f2], [.int .i64 x.f3, .int .i64 x.f4, .int .i64 x.f5], rfl, rfl, ⟨[.int .i64 x.f3], [.int .i64 x.f4, .int .i64 x.f5], rfl, rfl, ⟨[.int .i64 x.f4], [.int .i64 x.f5], rfl, rfl, rfl⟩⟩⟩⟩⟩
def zR (xs : List S57) (i : Int) : S57 := xs.getD i.toNat z57
theorem zaY {w : World} {A : Option Addr} {n : Nat} {xs : List S57} (h : Kd.C k57 w A n xs) (i : Int) (h0 : 0 ≤ i) (h1 : i < n) : ∃ ad , A = some ad ∧ w.cell? (ad.add (i.toNat * 6)) = some (.bool (zR xs i).f0) ∧ w.cell? ⟨(ad.add (i.toNat * 6)).block, (ad.add (i.toNat * 6)).off + 1, none⟩ = some (.bool (zR xs i).f1) ∧ w.cell? ⟨(ad.add (i.toNat * 6)).block, (ad.add (i.toNat * 6)).off + 2, none⟩ = some (.int .u64 (zR xs i).f2) ∧ w.cell? ⟨(ad.add (i.toNat * 6)).block, (ad.add (i.toNat * 6)).off + 3, none⟩ = some (.int .i64 (zR xs i).f3) ∧ w.cell? ⟨(ad.add (i.toNat * 6)).block, (ad.add (i.toNat * 6)).off + 4, none⟩ = some (.int .i64 (zR xs i).f4) ∧ w.cell? ⟨(ad.add (i.toNat * 6)).block, (ad.add (i.toNat * 6)).off + 5, none⟩ = some (.int .i64 (zR xs i).f5) := by
 obtain ⟨ad, c, e, _, hK, hc0⟩ := Kd.C_get h z57 i h0 h1
 have hc : ∀ j u, c[j]? = some u → w.cell? (ad.add (i.toNat * 6 + j)) = some u := hc0
 obtain rfl := k57_open hK
 exact ⟨ad, e, hc 0 _ rfl, by rw [← xY _ _ 1 (by omega)]; exact hc 1 _ rfl, by rw [← xY _ _ 2 (by omega)]; exact hc 2 _ rfl, by rw [← xY _ _ 3 (by omega)]; exact hc 3 _ rfl, by rw [← xY _ _ 4 (by omega)]; exact hc 4 _ rfl, by rw [← xY _ _ 5 (by omega)]; exact hc 5 _ rfl⟩
end Go.Proofs.YtfapmcpmfeigbaaDoor.QTreeTurns
end
section
namespace Go.Proofs.YtfapmcpmfeigbaaDoor.QTreeTurns
open Go.RowKit Go.Proofs.YtfapmcpmfeigbaaDoorW.PrintWords Go.Proofs.YtfapmcpmfeigbaaDoorW.PrintLast Go.Proofs.YtfapmcpmfeigbaaDoorW.PrintMore
attribute [local go_sem] kR kP vN vM jP jO kQ kN   -- for this text's walks alone
set_option linter.unusedVariables false
set_option linter.unusedSimpArgs false
open Go.Proofs.YtfapmcpmfeigbaaDoor.Tr Go.Proofs.YtfapmcpmfeigbaaDoor.Tm
def tree_Insert.okN (l : List S57) : Bool := decide (l.length ≤ 1000000)
def tree_Insert.nd (s : S57) : Nd := ⟨s.f0, s.f1, s.f2, s.f3, s.f4, s.f5⟩
def tree_Insert.un (n : Nd) : S57 := ⟨n.inn, n.red, n.v, n.l, n.r, n.u⟩
theorem tree_Insert.inC {w : World} {A : Option Addr} {l : List S57} (h : Kd.C k57 w A l.length l) : kn.C w A (l.map tree_Insert.nd).length (l.map tree_Insert.nd) := by
 rw [List.length_map]
 refine Tk.zbM.2 ?_
 have h2 := Tk.zbM.1 h
 rw [List.map_map]
 exact h2
theorem tree_Insert.outR {w : World} {base : Nat} {ok : Nat → Prop} {v : Value} {l : List Nd} (h : kn.R 57 w base ok v l) : Kd.R k57 57 w base ok v (l.map tree_Insert.un) := by
 refine Tk.zbL.2 ?_
 have h2 := Tk.zbL.1 h
 rw [List.map_map]
 exact h2
def tree_Insert.f (a0_0 : Int) (l0_1 : List S57) (a1 : Int) (a2_0 : Int) (a2_1 : Int) : Option (Int × (List S57) × Int) := if tree_Insert.okN l0_1 = true then (insA ⟨l0_1.map tree_Insert.nd, a0_0⟩ a1 (a2_0, a2_1)).map (fun r => (r.1.rt, r.1.ns.map tree_Insert.un, r.2)) else none
theorem tree_Insert.calls (a0_0 : Int) (A0_1 : Option Addr) (c0_1 : Nat) (l0_1 : List (S57)) (a1 : Int) (a2_0 : Int) (a2_1 : Int) (r1 : Int) (r2 : List (S57)) (r3 : Int) (w : World) (hr0_1 : Kd.C k57 w A0_1 l0_1.length l0_1) (hc0_1 : l0_1.length ≤ c0_1) (hT : Tm.Emp w) (h : tree_Insert.f a0_0 l0_1 a1 a2_0 a2_1 = some (r1, r2, r3)) :
  Calls Tryd.prog 11 #[.agg #[.int .i64 a0_0, .slice A0_1 l0_1.length c0_1], .int .u64 a1, .agg #[.int .u64 a2_0, .int .i64 a2_1]] w fun e w' => ∃ v1_ : Value, e = .returned (.tuple #[.agg #[.int .i64 r1, v1_], .int .i64 r3]) ∧ Kd.R k57 57 w' w.heap.size (fun _ => True) v1_ r2 ∧ Below w.heap.size w w' := by
 unfold tree_Insert.f at h
 by_cases c : tree_Insert.okN l0_1 = true
 rotate_left
 ·rw [if_neg c] at h
  cases h
 rw [if_pos c] at h
 have hl : (l0_1.map tree_Insert.nd).length ≤ 1000000 := by rw [List.length_map]; exact of_decide_eq_true c
 cases hm : insA (⟨l0_1.map tree_Insert.nd, a0_0⟩ : St) a1 (a2_0, a2_1) with
 | none => rw [hm] at h; cases h
 | some r =>
  rw [hm] at h
  have h := Option.some.inj h
  simp only [Prod.mk.injEq] at h
  obtain ⟨rfl, rfl, rfl⟩ := h
  have h2 := Insert_ (t := ⟨l0_1.map tree_Insert.nd, a0_0⟩) (w := w) A0_1 c0_1 a1 (a2_0, a2_1) r (tree_Insert.inC hr0_1) hl hT hm
  simp only [List.length_map] at h2
  refine h2.mono ?_
  rintro e w' ⟨v, rfl, hR, hB⟩
  exact ⟨v, rfl, tree_Insert.outR hR, hB⟩
open Go.Proofs.YtfapmcpmfeigbaaDoor.Tr Go.Proofs.YtfapmcpmfeigbaaDoor.Tm
def tree_Delete.okN (l : List S57) : Bool := decide (l.length ≤ 1000000)
def tree_Delete.nd (s : S57) : Nd := ⟨s.f0, s.f1, s.f2, s.f3, s.f4, s.f5⟩
def tree_Delete.un (n : Nd) : S57 := ⟨n.inn, n.red, n.v, n.l, n.r, n.u⟩
theorem tree_Delete.inC {w : World} {A : Option Addr} {l : List S57} (h : Kd.C k57 w A l.length l) : kn.C w A (l.map tree_Delete.nd).length (l.map tree_Delete.nd) := by
 rw [List.length_map]
 refine Tk.zbM.2 ?_
 have h2 := Tk.zbM.1 h
 rw [List.map_map]
 exact h2
theorem tree_Delete.outR {w : World} {base : Nat} {ok : Nat → Prop} {v : Value} {l : List Nd} (h : kn.R 57 w base ok v l) : Kd.R k57 57 w base ok v (l.map tree_Delete.un) := by
 refine Tk.zbL.2 ?_
 have h2 := Tk.zbL.1 h
 rw [List.map_map]
 exact h2
def tree_Delete.f (a0_0 : Int) (l0_1 : List S57) (a1 : Int) (a2 : Int) : Option (Int × (List S57) × Int) := if tree_Delete.okN l0_1 = true then (delF ⟨l0_1.map tree_Delete.nd, a0_0⟩ a1 a2).map (fun r => (r.1.rt, r.1.ns.map tree_Delete.un, r.2)) else none
theorem tree_Delete.calls (a0_0 : Int) (A0_1 : Option Addr) (c0_1 : Nat) (l0_1 : List (S57)) (a1 : Int) (a2 : Int) (r1 : Int) (r2 : List (S57)) (r3 : Int) (w : World) (hr0_1 : Kd.C k57 w A0_1 l0_1.length l0_1) (hc0_1 : l0_1.length ≤ c0_1) (hT : Tm.Emp w) (h : tree_Delete.f a0_0 l0_1 a1 a2 = some (r1, r2, r3)) :
  Calls Tryd.prog 13 #[.agg #[.int .i64 a0_0, .slice A0_1 l0_1.length c0_1], .int .u64 a1, .int .i64 a2] w fun e w' => ∃ v1_ : Value, e = .returned (.tuple #[.agg #[.int .i64 r1, v1_], .int .i64 r3]) ∧ Kd.R k57 57 w' w.heap.size (fun _ => True) v1_ r2 ∧ Below w.heap.size w w' := by
 unfold tree_Delete.f at h
 by_cases c : tree_Delete.okN l0_1 = true
 rotate_left
 ·rw [if_neg c] at h
  cases h
 rw [if_pos c] at h
 have hl : (l0_1.map tree_Delete.nd).length ≤ 1000000 := by rw [List.length_map]; exact of_decide_eq_true c
 cases hm : delF (⟨l0_1.map tree_Delete.nd, a0_0⟩ : St) a1 a2 with
 | none => rw [hm] at h; cases h
 | some r =>
  rw [hm] at h
  have h := Option.some.inj h
  simp only [Prod.mk.injEq] at h
  obtain ⟨rfl, rfl, rfl⟩ := h
  have h2 := Delete_ (t := ⟨l0_1.map tree_Delete.nd, a0_0⟩) (w := w) A0_1 c0_1 a1 a2 r (tree_Delete.inC hr0_1) hl hT hm
  simp only [List.length_map] at h2
  refine h2.mono ?_
  rintro e w' ⟨v, rfl, hR, hB⟩
  exact ⟨v, rfl, tree_Delete.outR hR, hB⟩
def turnspitlaw09_awake.f : Option Bool := some true
theorem turnspitlaw09_awake.calls (r : Bool) (w : World) (hT : Tm.Emp w) (h : turnspitlaw09_awake.f = some r) :
  Calls Tryd.prog 10 #[] w fun e w' => e = .returned (.bool r) ∧ Below w.heap.size w w' := by
 obtain rfl := Option.some.inj h
 exact Tm.awake_ w hT
end Go.Proofs.YtfapmcpmfeigbaaDoor.QTreeTurns
end
section
namespace Go.Proofs.YtfapmcpmfeigbaaDoor.QTreeTurns
open Go.RowKit Go.Proofs.YtfapmcpmfeigbaaDoorW.PrintWords Go.Proofs.YtfapmcpmfeigbaaDoorW.PrintLast Go.Proofs.YtfapmcpmfeigbaaDoorW.PrintMore
attribute [local go_sem] kR kP vN vM jP jO kQ kN   -- for this text's walks alone
set_option linter.unusedVariables false
set_option linter.unusedSimpArgs false
theorem eqA57 (d : Nat) (w : World) (x0 y0 : Bool) (x1 y1 : Bool) (x2 y2 : Int) (x3 y3 : Int) (x4 y4 : Int) (x5 y5 : Int) :
  (Op.equalIn (d + 2) 57 (.agg #[.bool x0, .bool x1, .int .u64 x2, .int .i64 x3, .int .i64 x4, .int .i64 x5]) (.agg #[.bool y0, .bool y1, .int .u64 y2, .int .i64 y3, .int .i64 y4, .int .i64 y5])).run Tryd.prog w = .ok (x0 == y0 && (x1 == y1 && (x2 == y2 && (x3 == y3 && (x4 == y4 && (x5 == y5)))))) w := by
 refine eqA_of Tryd.underlying57 (by kernel_rfl) ?_
 refine jL (by rfl) (by go_simp; rfl) (by go_simp; rfl) (by go_simp) ?_
 refine jL (by rfl) (by go_simp; rfl) (by go_simp; rfl) (by go_simp) ?_
 refine jL (by rfl) (by go_simp; rfl) (by go_simp; rfl) (by go_simp) ?_
 refine jL (by rfl) (by go_simp; rfl) (by go_simp; rfl) (by go_simp) ?_
 refine jL (by rfl) (by go_simp; rfl) (by go_simp; rfl) (by go_simp) ?_
 exact eqf_last (by rfl) (by go_simp; rfl) (by go_simp; rfl) (by go_simp)
end Go.Proofs.YtfapmcpmfeigbaaDoor.QTreeTurns
end
