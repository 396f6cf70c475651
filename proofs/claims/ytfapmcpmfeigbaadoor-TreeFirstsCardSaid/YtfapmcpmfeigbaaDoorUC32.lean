/- Parts of the proof, joined: QTreeFirstsx0, QTreeFirstsx1, QTreeFirstsx3, QTreeFirstsx11. -/
import Derived.Test.YtfapmcpmfeigbaaDoorProg
import Derived.Below
import Derived.Deep.Draws
import Derived.Deep.AppendLies
import Derived.Maps.AppendAt
import Derived.OwnWalk
import Derived.Laws.BytesArg
import Derived.Laws.MakeOwn
import Derived.Laws.OwnMore
import Derived.Deep.OwnRows
import Derived.Tactics
import Derived.Lib.ConvBytes
import Derived.Laws.Slices
import Derived.WalkKit
import Derived.KernelRfl
import Derived.RowKit3
import Derived.Deep.LoopGhost
import Derived.Deep.QuietTactic
import Derived.BigQuiet
import Derived.WideLaws
import Derived.Deep.DeepCutAuto
import Derived.Deep.CutBlock
import Derived.Deep.RegionHeld3
import Derived.Laws.Rows
import Derived.Lib.AppendStr
import Derived.ArgAppend
import Derived.Laws.IdiomCopy
import Derived.OrdersHeld
import Derived.Laws.BitsLemmas
import Derived.RowKit
import Derived.Test.YtfapmcpmfeigbaaDoorUC17
import Derived.Test.YtfapmcpmfeigbaaDoorUC14
import Derived.Test.YtfapmcpmfeigbaaDoorUC16
import Derived.Test.YtfapmcpmfeigbaaDoorUC19
import Derived.Test.YtfapmcpmfeigbaaDoorUC15
import Derived.Test.YtfapmcpmfeigbaaDoorUC28
import Derived.Test.YtfapmcpmfeigbaaDoorUC30
import Derived.Test.YtfapmcpmfeigbaaDoorUC26
import Derived.Test.YtfapmcpmfeigbaaDoorUC31
import Derived.Test.YtfapmcpmfeigbaaDoorUC1
import Derived.Test.YtfapmcpmfeigbaaDoorUC2
import Derived.Test.YtfapmcpmfeigbaaDoorUC12
import Derived.Test.YtfapmcpmfeigbaaDoorUC3
import Derived.Test.YtfapmcpmfeigbaaDoorUC9
section
namespace Go.Proofs.YtfapmcpmfeigbaaDoor.QTreeFirsts
open Go.RowKit Go.Proofs.YtfapmcpmfeigbaaDoorW.PrintWords Go.Proofs.YtfapmcpmfeigbaaDoorW.PrintLast Go.Proofs.YtfapmcpmfeigbaaDoorW.PrintMore
attribute [local go_sem] max2_int min2_int max_two min_two max_three min_three max_four min_four   -- for this text's walks alone
set_option linter.unusedVariables false
set_option linter.unusedSimpArgs false
def errW : Option Int → Value
 | none => .nilIface
 | some c => .iface 0 (.int .i64 c)
theorem errW_none : errW none = .nilIface := rfl
theorem errW_some (c : Int) : errW (some c) = .iface 0 (.int .i64 c) := rfl
theorem info57 : (Tryd.prog.info? 57).map (fun i => (i.zero, i.size, i.bytes)) = some (some (.agg #[(.bool false), (.bool false), (.int .u64 0), (.int .i64 0), (.int .i64 0), (.int .i64 0)]), 6, 40) := by kernel_rfl
structure S57 where
 f0 : Bool
 f1 : Bool
 f2 : Int
 f3 : Int
 f4 : Int
 f5 : Int
def k57 : Kd S57 := Kd.iso (Kd.pair Kd.bool (Kd.pair Kd.bool (Kd.pair (Kd.int .u64) (Kd.pair (Kd.int .i64) (Kd.pair (Kd.int .i64) (Kd.int .i64)))))) (fun x : S57 => (x.f0, x.f1, x.f2, x.f3, x.f4, x.f5))
theorem k57_mkM (w : World) (base : Nat) (ok : Nat → Prop) (x : S57)  : k57.M w base ok x [.bool x.f0, .bool x.f1, .int .u64 x.f2, .int .i64 x.f3, .int .i64 x.f4, .int .i64 x.f5] := ⟨[.bool x.f0], [.bool x.f1, .int .u64 x.f2, .int .i64 x.f3, .int .i64 x.f4, .int .i64 x.f5], rfl, rfl, ⟨[.bool x.f1], [.int .u64 x.f2, .int .i64 x.f3, .int .i64 x.f4, .int .i64 x.f5], rfl, rfl, ⟨[.int .u64 x.f2], [.int .i64 x.f3, .int .i64 x.f4, .int .i64 x.f5], rfl, rfl, ⟨[.int .i64 x.f3], [.int .i64 x.f4, .int .i64 x.f5], rfl, rfl, ⟨[.int .i64 x.f4], [.int .i64 x.f5], rfl, rfl, rfl⟩⟩⟩⟩⟩
structure S27 where
 f0 : Int
 f1 : Int
def z27 : S27 := ⟨(0 : Int), (0 : Int)⟩
def k27 : Kd S27 := Kd.iso (Kd.pair (Kd.int .u64) (Kd.int .i64)) (fun x : S27 => (x.f0, x.f1))
theorem k27_open {w : World} {x : S27} {cs : List Value} (h : k27.K w x cs) : cs = [.int .u64 x.f0, .int .i64 x.f1] := by
 obtain ⟨_, _, rfl, rfl, rfl⟩ := h
 exact rfl
def rd_T27 (xs : List S27) (i : Int) : S27 := xs.getD i.toNat z27
theorem at_T27 {w : World} {A : Option Addr} {n : Nat} {xs : List S27} (h : Kd.C k27 w A n xs) (i : Int) (h0 : 0 ≤ i) (h1 : i < n) : ∃ ad , A = some ad ∧ w.cell? (ad.add (i.toNat * 2)) = some (.int .u64 (rd_T27 xs i).f0) ∧ w.cell? ⟨(ad.add (i.toNat * 2)).block, (ad.add (i.toNat * 2)).off + 1, none⟩ = some (.int .i64 (rd_T27 xs i).f1) := by
 obtain ⟨ad, c, e, _, hK, hc0⟩ := Kd.C_get h z27 i h0 h1
 have hc : ∀ j u, c[j]? = some u → w.cell? (ad.add (i.toNat * 2 + j)) = some u := hc0
 obtain rfl := k27_open hK
 exact ⟨ad, e, hc 0 _ rfl, by rw [← add_field _ _ 1 (by omega)]; exact hc 1 _ rfl⟩
end Go.Proofs.YtfapmcpmfeigbaaDoor.QTreeFirsts
end
section
namespace Go.Proofs.YtfapmcpmfeigbaaDoor.QTreeFirsts
open Go.RowKit Go.Proofs.YtfapmcpmfeigbaaDoorW.PrintWords Go.Proofs.YtfapmcpmfeigbaaDoorW.PrintLast Go.Proofs.YtfapmcpmfeigbaaDoorW.PrintMore
attribute [local go_sem] max2_int min2_int max_two min_two max_three min_three max_four min_four   -- for this text's walks alone
set_option linter.unusedVariables false
set_option linter.unusedSimpArgs false
theorem eqA27 (d : Nat) (w : World) (x0 y0 : Int) (x1 y1 : Int) :
  (Op.equalIn (d + 2) 27 (.agg #[.int .u64 x0, .int .i64 x1]) (.agg #[.int .u64 y0, .int .i64 y1])).run Tryd.prog w = .ok (x0 == y0 && (x1 == y1)) w := by
 refine eqA_of Tryd.underlying27 (by kernel_rfl) ?_
 refine eqf_cons (by rfl) (by go_simp; rfl) (by go_simp; rfl) (by go_simp) ?_
 exact eqf_last (by rfl) (by go_simp; rfl) (by go_simp; rfl) (by go_simp)
end Go.Proofs.YtfapmcpmfeigbaaDoor.QTreeFirsts
end
section
namespace Go.Proofs.YtfapmcpmfeigbaaDoor.QTreeFirsts
open Go.RowKit Go.Proofs.YtfapmcpmfeigbaaDoorW.PrintWords Go.Proofs.YtfapmcpmfeigbaaDoorW.PrintLast Go.Proofs.YtfapmcpmfeigbaaDoorW.PrintMore
attribute [local go_sem] max2_int min2_int max_two min_two max_three min_three max_four min_four   -- for this text's walks alone
set_option linter.unusedVariables false
set_option linter.unusedSimpArgs false
open Go.Proofs.YtfapmcpmfeigbaaDoor.Tr Go.Proofs.YtfapmcpmfeigbaaDoor.Tm
def tree_Walk.okN (l : List S57) : Bool := decide (l.length ≤ 1000000)
def tree_Walk.nd (s : S57) : Nd := ⟨s.f0, s.f1, s.f2, s.f3, s.f4, s.f5⟩
theorem tree_Walk.inC {w : World} {A : Option Addr} {l : List S57} (h : Kd.C k57 w A l.length l) : kn.C w A (l.map tree_Walk.nd).length (l.map tree_Walk.nd) := by
 rw [List.length_map]
 refine Tk.C_iso.2 ?_
 have h2 := Tk.C_iso.1 h
 rw [List.map_map]
 exact h2
def tree_Walk.un2 (k : Int × Int) : S27 := ⟨k.1, k.2⟩
theorem tree_Walk.outK {w : World} {base : Nat} {ok : Nat → Prop} {v : Value} {l : List (Int × Int)} (h : Tk.kp.R 27 w base ok v l) : Kd.R k27 27 w base ok v (l.map tree_Walk.un2) := by
 refine Tk.R_iso.2 ?_
 rw [List.map_map]
 have e : ((fun x : S27 => (x.f0, x.f1)) ∘ tree_Walk.un2) = id := rfl
 rw [e, List.map_id]
 exact h
def tree_Walk.f (a0_0 : Int) (l0_1 : List S57) : Option (List S27) := if tree_Walk.okN l0_1 = true then some ((walkA ⟨l0_1.map tree_Walk.nd, a0_0⟩).map tree_Walk.un2) else none
theorem tree_Walk.calls (a0_0 : Int) (A0_1 : Option Addr) (c0_1 : Nat) (l0_1 : List (S57))  (r : List (S27)) (w : World) (hr0_1 : Kd.C k57 w A0_1 l0_1.length l0_1) (hc0_1 : l0_1.length ≤ c0_1) (hT : Tm.Emp w) (h : tree_Walk.f a0_0 l0_1  = some r) :
  Calls Tryd.prog 21 #[.agg #[.int .i64 a0_0, .slice A0_1 l0_1.length c0_1]] w fun e w' => ∃ v0_ : Value, e = .returned v0_ ∧ Kd.R k27 27 w' w.heap.size (fun _ => True) v0_ r ∧ Below w.heap.size w w' := by
 unfold tree_Walk.f at h
 by_cases c : tree_Walk.okN l0_1 = true
 ·rw [if_pos c] at h
  have hl : (l0_1.map tree_Walk.nd).length ≤ 1000000 := by rw [List.length_map]; exact of_decide_eq_true c
  obtain rfl := Option.some.inj h
  have h2 := Walk_ (t := ⟨l0_1.map tree_Walk.nd, a0_0⟩) (w := w) A0_1 c0_1 (tree_Walk.inC hr0_1) hl hT
  simp only [List.length_map] at h2
  refine h2.mono ?_
  rintro e w' ⟨v, rfl, hR, hB⟩
  exact ⟨v, rfl, tree_Walk.outK hR, hB⟩
 ·rw [if_neg c] at h
  cases h
open Go.Proofs.YtfapmcpmfeigbaaDoor.Tr Go.Proofs.YtfapmcpmfeigbaaDoor.Tm
def tree_Delete.okN (l : List S57) : Bool := decide (l.length ≤ 1000000)
def tree_Delete.nd (s : S57) : Nd := ⟨s.f0, s.f1, s.f2, s.f3, s.f4, s.f5⟩
def tree_Delete.un (n : Nd) : S57 := ⟨n.inn, n.red, n.v, n.l, n.r, n.u⟩
theorem tree_Delete.inC {w : World} {A : Option Addr} {l : List S57} (h : Kd.C k57 w A l.length l) : kn.C w A (l.map tree_Delete.nd).length (l.map tree_Delete.nd) := by
 rw [List.length_map]
 refine Tk.C_iso.2 ?_
 have h2 := Tk.C_iso.1 h
 rw [List.map_map]
 exact h2
theorem tree_Delete.outR {w : World} {base : Nat} {ok : Nat → Prop} {v : Value} {l : List Nd} (h : kn.R 57 w base ok v l) : Kd.R k57 57 w base ok v (l.map tree_Delete.un) := by
 refine Tk.R_iso.2 ?_
 have h2 := Tk.R_iso.1 h
 rw [List.map_map]
 exact h2
def tree_Delete.f (a0_0 : Int) (l0_1 : List S57) (a1 : Int) (a2 : Int) : Option (Int × (List S57) × Int) := if tree_Delete.okN l0_1 = true then (delF ⟨l0_1.map tree_Delete.nd, a0_0⟩ a1 a2).map (fun r => (r.1.rt, r.1.ns.map tree_Delete.un, r.2)) else none
theorem tree_Delete.calls (a0_0 : Int) (A0_1 : Option Addr) (c0_1 : Nat) (l0_1 : List (S57)) (a1 : Int) (a2 : Int) (r1 : Int) (r2 : List (S57)) (r3 : Int) (w : World) (hr0_1 : Kd.C k57 w A0_1 l0_1.length l0_1) (hc0_1 : l0_1.length ≤ c0_1) (hT : Tm.Emp w) (h : tree_Delete.f a0_0 l0_1 a1 a2 = some (r1, r2, r3)) :
  Calls Tryd.prog 13 #[.agg #[.int .i64 a0_0, .slice A0_1 l0_1.length c0_1], .int .u64 a1, .int .i64 a2] w fun e w' => ∃ v1_ : Value, e = .returned (.tuple #[.agg #[.int .i64 r1, v1_], .int .i64 r3]) ∧ Kd.R k57 57 w' w.heap.size (fun _ => True) v1_ r2 ∧ Below w.heap.size w w' := by
 unfold tree_Delete.f at h
 by_cases c : tree_Delete.okN l0_1 = true
 ·rw [if_pos c] at h
  have hl : (l0_1.map tree_Delete.nd).length ≤ 1000000 := by rw [List.length_map]; exact of_decide_eq_true c
  cases hm : delF (⟨l0_1.map tree_Delete.nd, a0_0⟩ : St) a1 a2 with
  | none => rw [hm] at h; cases h
  | some r =>
   rw [hm] at h
   have h := Option.some.inj h
   simp only [Prod.mk.injEq] at h
   obtain ⟨rfl, rfl, rfl⟩ := h
   have h2 := Delete_ (t := ⟨l0_1.map tree_Delete.nd, a0_0⟩) (w := w) A0_1 c0_1 a1 a2 r (tree_Delete.inC hr0_1) hl hT hm
   simp only [List.length_map] at h2
   refine h2.mono ?_
   rintro e w' ⟨v, rfl, hR, hB⟩
   exact ⟨v, rfl, tree_Delete.outR hR, hB⟩
 ·rw [if_neg c] at h
  cases h
open Go.Proofs.YtfapmcpmfeigbaaDoor.Tr Go.Proofs.YtfapmcpmfeigbaaDoor.Tm
def tree_First.okN (l : List S57) : Bool := decide (l.length ≤ 1000000)
def tree_First.nd (s : S57) : Nd := ⟨s.f0, s.f1, s.f2, s.f3, s.f4, s.f5⟩
theorem tree_First.inC {w : World} {A : Option Addr} {l : List S57} (h : Kd.C k57 w A l.length l) : kn.C w A (l.map tree_First.nd).length (l.map tree_First.nd) := by
 rw [List.length_map]
 refine Tk.C_iso.2 ?_
 have h2 := Tk.C_iso.1 h
 rw [List.map_map]
 exact h2
def tree_First.f (a0_0 : Int) (l0_1 : List S57) : Option (Int × Int × Bool) := if tree_First.okN l0_1 = true then some (((walkA ⟨l0_1.map tree_First.nd, a0_0⟩).getD 0 (0, 0)).1, ((walkA ⟨l0_1.map tree_First.nd, a0_0⟩).getD 0 (0, 0)).2, decide (0 < (walkA ⟨l0_1.map tree_First.nd, a0_0⟩).length)) else none
theorem tree_First.calls (a0_0 : Int) (A0_1 : Option Addr) (c0_1 : Nat) (l0_1 : List (S57))  (r1 : Int) (r2 : Int) (r3 : Bool) (w : World) (hr0_1 : Kd.C k57 w A0_1 l0_1.length l0_1) (hc0_1 : l0_1.length ≤ c0_1) (hT : Tm.Emp w) (h : tree_First.f a0_0 l0_1  = some (r1, r2, r3)) :
  Calls Tryd.prog 16 #[.agg #[.int .i64 a0_0, .slice A0_1 l0_1.length c0_1]] w fun e w' => e = .returned (.tuple #[.agg #[.int .u64 r1, .int .i64 r2], .bool r3]) ∧ Below w.heap.size w w' := by
 unfold tree_First.f at h
 by_cases c : tree_First.okN l0_1 = true
 ·rw [if_pos c] at h
  have hl : (l0_1.map tree_First.nd).length ≤ 1000000 := by rw [List.length_map]; exact of_decide_eq_true c
  have h := Option.some.inj h
  simp only [Prod.mk.injEq] at h
  obtain ⟨rfl, rfl, rfl⟩ := h
  have h2 := First_ (t := ⟨l0_1.map tree_First.nd, a0_0⟩) (w := w) A0_1 c0_1 (tree_First.inC hr0_1) hl hT
  simp only [List.length_map] at h2
  exact h2
 ·rw [if_neg c] at h
  cases h
open Go.Proofs.YtfapmcpmfeigbaaDoor.Tr Go.Proofs.YtfapmcpmfeigbaaDoor.Tm
def tree_Height.okN (l : List S57) : Bool := decide (l.length ≤ 1000000)
def tree_Height.nd (s : S57) : Nd := ⟨s.f0, s.f1, s.f2, s.f3, s.f4, s.f5⟩
theorem tree_Height.inC {w : World} {A : Option Addr} {l : List S57} (h : Kd.C k57 w A l.length l) : kn.C w A (l.map tree_Height.nd).length (l.map tree_Height.nd) := by
 rw [List.length_map]
 refine Tk.C_iso.2 ?_
 have h2 := Tk.C_iso.1 h
 rw [List.map_map]
 exact h2
def tree_Height.f (a0_0 : Int) (l0_1 : List S57) : Option Int := if tree_Height.okN l0_1 = true then some (heightA ⟨l0_1.map tree_Height.nd, a0_0⟩) else none
theorem tree_Height.calls (a0_0 : Int) (A0_1 : Option Addr) (c0_1 : Nat) (l0_1 : List (S57))  (r : Int) (w : World) (hr0_1 : Kd.C k57 w A0_1 l0_1.length l0_1) (hc0_1 : l0_1.length ≤ c0_1) (hT : Tm.Emp w) (h : tree_Height.f a0_0 l0_1  = some r) :
  Calls Tryd.prog 23 #[.agg #[.int .i64 a0_0, .slice A0_1 l0_1.length c0_1]] w fun e w' => e = .returned (.int .i64 r) ∧ Below w.heap.size w w' := by
 unfold tree_Height.f at h
 by_cases c : tree_Height.okN l0_1 = true
 ·rw [if_pos c] at h
  have hl : (l0_1.map tree_Height.nd).length ≤ 1000000 := by rw [List.length_map]; exact of_decide_eq_true c
  obtain rfl := Option.some.inj h
  have h2 := Height_ (t := ⟨l0_1.map tree_Height.nd, a0_0⟩) (w := w) A0_1 c0_1 (tree_Height.inC hr0_1) hl hT
  simp only [List.length_map] at h2
  exact h2
 ·rw [if_neg c] at h
  cases h
def turnspitlaw09_awake.f : Option Bool := some true
theorem turnspitlaw09_awake.calls (r : Bool) (w : World) (hT : Tm.Emp w) (h : turnspitlaw09_awake.f = some r) :
  Calls Tryd.prog 10 #[] w fun e w' => e = .returned (.bool r) ∧ Below w.heap.size w w' := by
 obtain rfl := Option.some.inj h
 exact Tm.awake_ w hT
def turnspitref09_Empty.f  : Option (Bool × Bool × Int × Int × Int × Int) := some (false, false, 0, (-1), (-1), (-1))
set_option maxHeartbeats 8000000 in
set_option maxRecDepth 100000 in
theorem turnspitref09_Empty.calls  (r1 : Bool) (r2 : Bool) (r3 : Int) (r4 : Int) (r5 : Int) (r6 : Int) (w : World) (hT : Tm.Emp w) (h : turnspitref09_Empty.f  = some (r1, r2, r3, r4, r5, r6)) :
  Calls Tryd.prog 40 #[] w fun e w' => e = .returned (.agg #[.bool r1, .bool r2, .int .u64 r3, .int .i64 r4, .int .i64 r5, .int .i64 r6]) ∧ Below w.heap.size w w' := by
 have hu57 := Tryd.underlying57
 have HB := Aside0.mk (Below.refl w.heap.size w)
 have H : (some (false, false, 0, (-1), (-1), (-1))) = some (r1, r2, r3, r4, r5, r6) := h
 clear h
 simp only [Option.some.injEq, Prod.mk.injEq] at H
 obtain ⟨rfl, rfl, rfl, rfl, rfl, rfl⟩ := H
 go_enter Tryd.func40, Tryd.ntmps40
 go_wp2_with (first | ((with_reducible refine gate_dst (N := 0) rfl ?_); refine box_event ?hg (N := 0) ?hd (cs := #[.bool false, .bool false, .int .u64 0, .int .i64 0, .int .i64 0, .int .i64 0]) (t := 57) ?hr ?_; (case hd => rfl); (case hg => rfl); (case hr => first | (go_simp; done) | (go_simp; rfl)); intro gb124 hg w1 hbox hb; have n0_ := Aside0.mk (below_step (by repeat (first | (with_reducible first | exact HB.out | apply below_alloc | apply pw_below_drewN | apply below_drew1) | exact HB.out)) hb); have n1_ := Aside0.mk (hbox); have n2_ := Aside0.mk ((by rw [hg]; exact (below_size (by repeat (first | (with_reducible first | exact HB.out | apply below_alloc | apply pw_below_drewN | apply below_drew1) | exact HB.out))) : w.heap.size ≤ gb124)); have n3_ := Aside0.mk ((by rw [hg]; exact (below_size (by repeat (first | (with_reducible first | exact HB.out | apply below_alloc | apply pw_below_drewN | apply below_drew1) | exact HB.out))) : w.heap.size ≤ gb124)); clear HB; have HB := n0_; have BK124 := n1_; have GW124 := n2_; have GE124 := n3_; clear n0_ n1_ n2_ n3_; clear hb hbox hg; have hcz2_0 : w1.cell? ⟨gb124, 0, none⟩ = some (.bool false) := (blk_cell BK124.out 0).trans rfl; have hcz2_1 : w1.cell? ⟨gb124, 1, none⟩ = some (.bool false) := (blk_cell BK124.out 1).trans rfl; have hcz2_2 : w1.cell? ⟨gb124, 2, none⟩ = some (.int .u64 0) := (blk_cell BK124.out 2).trans rfl; have hcz2_3 : w1.cell? ⟨gb124, 3, none⟩ = some (.int .i64 0) := (blk_cell BK124.out 3).trans rfl; have hcz2_4 : w1.cell? ⟨gb124, 4, none⟩ = some (.int .i64 0) := (blk_cell BK124.out 4).trans rfl; have hcz2_5 : w1.cell? ⟨gb124, 5, none⟩ = some (.int .i64 0) := (blk_cell BK124.out 5).trans rfl; have hfz2_0 := blk_frozen BK124.out 0; have hfz2_1 := blk_frozen BK124.out 1; have hfz2_2 := blk_frozen BK124.out 2; have hfz2_3 := blk_frozen BK124.out 3; have hfz2_4 := blk_frozen BK124.out 4; have hfz2_5 := blk_frozen BK124.out 5))
 refine bodyPost_ret (results_cell_row rfl _ _ gb124 57 #[.bool false, .bool false, .int .u64 0, .int .i64 (-1), .int .i64 (-1), .int .i64 (-1)] (0, 0) _ rfl (by (with_reducible repeat (first | refine blk_drewN ?_ _ | refine blk_drew ?_ | refine blk_alloc ?_ _)); refine blk_put (cs := #[.bool false, .bool false, .int .u64 0, .int .i64 (-1), .int .i64 (-1), .int .i64 0]) ?_ 5 _ rfl; (with_reducible repeat (first | refine blk_drewN ?_ _ | refine blk_drew ?_ | refine blk_alloc ?_ _)); refine blk_put (cs := #[.bool false, .bool false, .int .u64 0, .int .i64 (-1), .int .i64 0, .int .i64 0]) ?_ 4 _ rfl; (with_reducible repeat (first | refine blk_drewN ?_ _ | refine blk_drew ?_ | refine blk_alloc ?_ _)); refine blk_put (cs := #[.bool false, .bool false, .int .u64 0, .int .i64 0, .int .i64 0, .int .i64 0]) ?_ 3 _ rfl; (with_reducible repeat (first | refine blk_drewN ?_ _ | refine blk_drew ?_ | refine blk_alloc ?_ _)); refine blk_put (cs := #[.bool false, .bool false, .int .u64 0, .int .i64 0, .int .i64 0, .int .i64 0]) ?_ 2 _ rfl; (with_reducible repeat (first | refine blk_drewN ?_ _ | refine blk_drew ?_ | refine blk_alloc ?_ _)); refine blk_put (cs := #[.bool false, .bool false, .int .u64 0, .int .i64 0, .int .i64 0, .int .i64 0]) ?_ 1 _ rfl; (with_reducible repeat (first | refine blk_drewN ?_ _ | refine blk_drew ?_ | refine blk_alloc ?_ _)); refine blk_put (cs := #[.bool false, .bool false, .int .u64 0, .int .i64 0, .int .i64 0, .int .i64 0]) ?_ 0 _ rfl; (with_reducible repeat (first | refine blk_drewN ?_ _ | refine blk_drew ?_ | refine blk_alloc ?_ _)); exact BK124.out) Tryd.underlying57 rfl (by kernel_rfl)) rfl ?_
 exact ⟨by first | rfl | (simp [errW_none, errW_some] <;> rfl) | (simp [*, errW_none, errW_some] <;> rfl), by repeat (first | (with_reducible first | exact HB.out | apply below_alloc | apply pw_below_drewN | apply below_drew1 | refine below_set ?_ GE124.out) | exact HB.out)⟩
end Go.Proofs.YtfapmcpmfeigbaaDoor.QTreeFirsts
end
section
namespace Go.Proofs.YtfapmcpmfeigbaaDoor.QTreeFirsts
open Go.RowKit Go.Proofs.YtfapmcpmfeigbaaDoorW.PrintWords Go.Proofs.YtfapmcpmfeigbaaDoorW.PrintLast Go.Proofs.YtfapmcpmfeigbaaDoorW.PrintMore
attribute [local go_sem] max2_int min2_int max_two min_two max_three min_three max_four min_four   -- for this text's walks alone
set_option linter.unusedVariables false
set_option linter.unusedSimpArgs false
open Go.Proofs.YtfapmcpmfeigbaaDoor.Tr Go.Proofs.YtfapmcpmfeigbaaDoor.Tm
def turnspitref09_Insert.okN (l : List S57) : Bool := decide (l.length ≤ 1000000)
def turnspitref09_Insert.nd (s : S57) : Nd := ⟨s.f0, s.f1, s.f2, s.f3, s.f4, s.f5⟩
def turnspitref09_Insert.un (n : Nd) : S57 := ⟨n.inn, n.red, n.v, n.l, n.r, n.u⟩
theorem turnspitref09_Insert.inC {w : World} {A : Option Addr} {l : List S57} (h : Kd.C k57 w A l.length l) : kn.C w A (l.map turnspitref09_Insert.nd).length (l.map turnspitref09_Insert.nd) := by
 rw [List.length_map]
 refine Tk.C_iso.2 ?_
 have h2 := Tk.C_iso.1 h
 rw [List.map_map]
 exact h2
theorem turnspitref09_Insert.outR {w : World} {base : Nat} {ok : Nat → Prop} {v : Value} {l : List Nd} (h : kn.R 57 w base ok v l) : Kd.R k57 57 w base ok v (l.map turnspitref09_Insert.un) := by
 refine Tk.R_iso.2 ?_
 have h2 := Tk.R_iso.1 h
 rw [List.map_map]
 exact h2
def turnspitref09_Insert.f (a0_0 : Int) (l0_1 : List S57) (a1 : Int) (a2_0 : Int) (a2_1 : Int) : Option (Int × (List S57) × Int) := if turnspitref09_Insert.okN l0_1 = true then (insA ⟨l0_1.map turnspitref09_Insert.nd, a0_0⟩ a1 (a2_0, a2_1)).map (fun r => (r.1.rt, r.1.ns.map turnspitref09_Insert.un, r.2)) else none
theorem turnspitref09_Insert.calls (a0_0 : Int) (A0_1 : Option Addr) (c0_1 : Nat) (l0_1 : List (S57)) (a1 : Int) (a2_0 : Int) (a2_1 : Int) (r1 : Int) (r2 : List (S57)) (r3 : Int) (w : World) (hr0_1 : Kd.C k57 w A0_1 l0_1.length l0_1) (hc0_1 : l0_1.length ≤ c0_1) (hT : Tm.Emp w) (h : turnspitref09_Insert.f a0_0 l0_1 a1 a2_0 a2_1 = some (r1, r2, r3)) :
  Calls Tryd.prog 12 #[.agg #[.int .i64 a0_0, .slice A0_1 l0_1.length c0_1], .int .u64 a1, .agg #[.int .u64 a2_0, .int .i64 a2_1]] w fun e w' => ∃ v1_ : Value, e = .returned (.tuple #[.agg #[.int .i64 r1, v1_], .int .i64 r3]) ∧ Kd.R k57 57 w' w.heap.size (fun _ => True) v1_ r2 ∧ Below w.heap.size w w' := by
 unfold turnspitref09_Insert.f at h
 by_cases c : turnspitref09_Insert.okN l0_1 = true
 ·rw [if_pos c] at h
  have hl : (l0_1.map turnspitref09_Insert.nd).length ≤ 1000000 := by rw [List.length_map]; exact of_decide_eq_true c
  cases hm : insA (⟨l0_1.map turnspitref09_Insert.nd, a0_0⟩ : St) a1 (a2_0, a2_1) with
  | none => rw [hm] at h; cases h
  | some r =>
   rw [hm] at h
   have h := Option.some.inj h
   simp only [Prod.mk.injEq] at h
   obtain ⟨rfl, rfl, rfl⟩ := h
   have h2 := rInsert_ (t := ⟨l0_1.map turnspitref09_Insert.nd, a0_0⟩) (w := w) A0_1 c0_1 a1 (a2_0, a2_1) r (turnspitref09_Insert.inC hr0_1) (by rw [List.length_map]; exact hc0_1) hl hm
   simp only [List.length_map] at h2
   refine h2.mono ?_
   rintro e w' ⟨v, rfl, hR, hB⟩
   exact ⟨v, rfl, turnspitref09_Insert.outR hR, hB⟩
 ·rw [if_neg c] at h
  cases h
end Go.Proofs.YtfapmcpmfeigbaaDoor.QTreeFirsts
end
