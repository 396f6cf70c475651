/- Parts of the proof, joined: Tk. -/
import Derived.Test.YtnkhnnojdlgfjaaDoorUF13
import Derived.Test.YtnkhnnojdlgfjaaDoorUF3
import Derived.WalkKit
import Derived.KernelRfl
import Derived.Below
import Derived.Test.YtnkhnnojdlgfjaaDoorProg
import Derived.Lib.Hide
import Derived.Outline
import Derived.WalkSpells
import Derived.RegionTactic
import Derived.ChangeAlike
import Derived.BigRegion
import Derived.Deep.QuietTactic
import Derived.BigQuiet
import Derived.StillTailTactics
import Derived.IntWalk
import Derived.DeepKeys4
import Derived.Maps.OwnSet
import Derived.Maps.OwnOps
import Derived.Deep.DeepCutAuto
import Derived.Deep.RegionHeld3
namespace Go.Proofs.YtnkhnnojdlgfjaaDoor.Tk
open Go.RowKit Go Go.Proofs Go.Proofs.YtnkhnnojdlgfjaaDoor Go.Proofs.YtnkhnnojdlgfjaaDoorW.PrintWords Go.Proofs.YtnkhnnojdlgfjaaDoorW.PrintLast Go.Proofs.YtnkhnnojdlgfjaaDoorW.PrintMore
set_option linter.unusedVariables false
set_option linter.unusedSimpArgs false
abbrev K := Int × Int
def gt (l : List K) (t : Nat) : K := l.getD t (0, 0)
theorem gt_of (l : List K) (t : Nat) (h : t < l.length) : gt l t = l[t] := by
  simp only [gt, List.getD_eq_getElem?_getD, List.getElem?_eq_getElem h, Option.getD_some]
theorem gt_mem (l : List K) (t : Nat) (h : t < l.length) : gt l t ∈ l := by rw [gt_of l t h]; exact List.getElem_mem h
structure Ord (cv : K → K → Int) : Prop where
  asym : ∀ x y, cv x y < 0 → ¬ cv y x < 0
  trans : ∀ x y z, ¬ cv y x < 0 → ¬ cv z y < 0 → ¬ cv z x < 0
structure Sl1 (P : Nat → World → Prop) (u : Value) (w : World) : Prop where mk ::
  out : ∃ k : Nat, u = .int .i64 k ∧ P k w
theorem info26 : (Tryd.prog.info? 47).map (fun i => (i.zero, i.size, i.bytes)) = some (some (.agg #[(.int .u64 0), (.int .i64 0)]), 2, 16) := by kernel_rfl
def kp : Kd K := Kd.pair (Kd.int .u64) (Kd.int .i64)
theorem kp_open {w : World} {x : K} {cs : List Value} (h : kp.K w x cs) : cs = [.int .u64 x.1, .int .i64 x.2] := by
  obtain ⟨_, _, rfl, rfl, rfl⟩ := h
  exact rfl
theorem kp_openM {w : World} {base : Nat} {ok : Nat → Prop} {x : K} {cs : List Value} (h : kp.M w base ok x cs) : cs = [.int .u64 x.1, .int .i64 x.2] := by
  obtain ⟨_, _, rfl, rfl, rfl⟩ := h
  exact rfl
theorem kp_mkM (w : World) (base : Nat) (ok : Nat → Prop) (x : K) : kp.M w base ok x [.int .u64 x.1, .int .i64 x.2] := ⟨[.int .u64 x.1], [.int .i64 x.2], rfl, rfl, rfl⟩
theorem C_at {w : World} {A : Option Addr} {n : Nat} {l : List K} (h : kp.C w A n l) (i : Nat) (h1 : i < n) : ∃ ad, A = some ad ∧ w.cell? (ad.add (i * 2)) = some (.int .u64 (gt l i).1) ∧ w.cell? ⟨(ad.add (i * 2)).block, (ad.add (i * 2)).off + 1, none⟩ = some (.int .i64 (gt l i).2) := by
  obtain ⟨ad, c, e, _, hK, hc0⟩ := Kd.C_get h (0, 0) (i : Int) (by omega) (by omega)
  have hc : ∀ j u, c[j]? = some u → w.cell? (ad.add (((i : Int)).toNat * 2 + j)) = some u := hc0
  obtain rfl := kp_open hK
  rw [Int.toNat_natCast] at hc
  refine ⟨ad, e, hc 0 _ rfl, ?_⟩
  rw [← add_field ad (i * 2) 1 (by omega)]
  exact hc 1 _ rfl
structure Cmp26 (mn : Int) (cv : K → K → Int) : Prop where mk ::
  out : ∀ (W : World) (x y : K), Calls Tryd.prog 71 #[.int .u64 mn, .agg #[.int .u64 x.1, .int .i64 x.2], .agg #[.int .u64 y.1, .int .i64 y.2]] W fun e w' => e = .returned (.int .i64 (cv x y)) ∧ Below W.heap.size W w'
theorem cells_below {w w1 : World} {ad : Addr} {v : Value} (h : w.cell? ad = some v) (hb : Below w.heap.size w w1) : w1.cell? ad = some v := by
  rw [hb.cell (World.block_lt_of_cell? w _ h)]; exact h
section
variable {mn : Int} {cv : K → K → Int} (hc : Cmp26 mn cv)
include hc
set_option maxHeartbeats 8000000 in
set_option maxRecDepth 100000 in
theorem keyLess (x y : K) (w : World) : Calls Tryd.prog 41 #[.int .u64 mn, .agg #[.int .u64 x.1, .int .i64 x.2], .agg #[.int .u64 y.1, .int .i64 y.2]] w fun e w' => e = .returned (.bool (decide (cv x y < 0))) ∧ Below w.heap.size w w' := by
  have H := Aside0.mk hc
  have HB0 := Aside0.mk (below_alloc (below_alloc (Below.refl w.heap.size w) (.cells #[.int .u64 x.1, .int .i64 x.2] 47)) (.cells #[.int .u64 y.1, .int .i64 y.2] 47))
  clear hc
  go_enter Tryd.func41, Tryd.ntmps41
  go_wp2_with (go_at_call 71; (with_reducible refine (H.out.out _ x y).mono ?_); rintro e w3 ⟨rfl, hb⟩; have HB1 := Aside0.mk (below_step HB0.out hb); clear hb)
  go_ret
  exact ⟨rfl, HB1.out⟩
end
def inI (x : Int) : Prop := -9223372036854775808 ≤ x ∧ x ≤ 9223372036854775807
theorem wf_of {x : Int} (h : inI x) : (Lit.int .i64 x).wf = true := by
  obtain ⟨h1, h2⟩ := h
  simp [Lit.wf, IntKind.min, IntKind.max, IntKind.signed, IntKind.bits]
  omega
theorem laidOut : laidOutB Tryd.prog = true := by kernel_rfl
theorem row53 : (131 : TypeId) < Tryd.prog.types.size := of_decide_eq_true (by kernel_rfl)
theorem wide53 : (match Tryd.prog.underlying 131 with | some (.array _ _) | some (.struct _) => true | _ => false) = true := by rw [Tryd.underlying131]
set_option maxHeartbeats 8000000 in
set_option maxRecDepth 100000 in
theorem keyed53 : Maps.Keyed Tryd.prog 131 := Maps.Keyed.of_law (deep_law_laid laidOut (m := 2) (by omega) row53 (by kernel_rfl) wide53)
set_option maxHeartbeats 8000000 in
set_option maxRecDepth 100000 in
theorem key53 {x : Int} (h : inI x) : ∃ l, keyOf Tryd.prog 131 (.agg #[.int .i64 x]) = some l := by
  have hw := wf_of h
  have h2 : Tryd.prog.cellsOf 3 = 1 := by kernel_rfl
  have h53 : Tryd.prog.cellsOf 131 = 1 := by kernel_rfl
  have hk : Tryd.prog.keyType 131 = true := by kernel_rfl
  have hf : (Value.agg #[.int .i64 x]).formed Tryd.prog 131 = true := by simp [Value.formed, Tryd.underlying131, h53]
  have e1 : ∀ d, Tryd.prog.keyLits (d + 1) 3 [.int .i64 x] = some [.int .i64 x] := fun d => by
    unfold Program.keyLits
    rw [Tryd.underlying3]
    simp [hw]
  have e2 : ∀ d, ∃ l, Tryd.prog.keyLits (d + 2) 131 [.int .i64 x] = some l := fun d => by
    unfold Program.keyLits
    rw [Tryd.underlying131]
    simp [h53, h2, e1 d]
  obtain ⟨m, hm⟩ : ∃ m, Tryd.prog.types.size = m + 1 := ⟨Tryd.prog.types.size - 1, (Nat.sub_add_cancel (Nat.lt_of_le_of_lt (Nat.zero_le 131) row53)).symm⟩
  obtain ⟨l, hl⟩ := e2 m
  unfold keyOf
  rw [Tryd.underlying131]
  simp only [hk, hf, Bool.and_self, if_true]
  rw [hm, show (Value.agg #[Value.int .i64 x]).cells.toList = [.int .i64 x] from rfl, show m + 1 + 1 = m + 2 from rfl, hl]
  exact ⟨_, rfl⟩
theorem zero4 (w : World) : (zeroValue 4).run Tryd.prog w = .ok (.bool false) w := by kernel_rfl
structure SetM (w : World) (b : Nat) (ids : List Int) : Prop where mk ::
  out : ∃ es clock, w.heap[b]? = some (.map es clock) ∧ es.toList.map (fun e => e.key) = ids.map (fun x => Value.agg #[.int .i64 x]) ∧ (∀ e ∈ es.toList, e.val = .bool true) ∧ ∀ x ∈ ids, inI x
theorem SetM.made (w : World) : SetM (w.alloc (.map #[] 0)) w.heap.size [] := ⟨_, _, heap_alloc_new w _, rfl, fun e h => by simp at h, fun x h => by cases h⟩
theorem SetM.lt {w : World} {b : Nat} {ids : List Int} (h : SetM w b ids) : b < w.heap.size := by
  obtain ⟨es, clock, h1, _⟩ := h.out
  exact (Array.getElem?_eq_some_iff.1 h1).1
theorem SetM.moved {w w' : World} {b : Nat} {ids : List Int} (h : SetM w b ids) (hb : w'.heap[b]? = w.heap[b]?) : SetM w' b ids := by
  obtain ⟨es, clock, h1, h2⟩ := h.out
  exact ⟨es, clock, hb.trans h1, h2⟩
theorem SetM.below {w w' : World} {b : Nat} {ids : List Int} (h : SetM w b ids) (hb : Below w.heap.size w w') : SetM w' b ids := h.moved (hb.block b h.lt)
theorem SetM.find {w : World} {b : Nat} {ids : List Int} (h : SetM w b ids) (x : Int) (hx : inI x) : ∃ es clock, w.heap[b]? = some (.map es clock) ∧ es.toList.map (fun e => e.key) = ids.map (fun x => Value.agg #[.int .i64 x]) ∧ (∀ e ∈ es.toList, e.val = .bool true) ∧
    (((Instr.findKey 131 (.agg #[.int .i64 x]) es.toList).run Tryd.prog w = .ok none w ∧ x ∉ ids) ∨ ∃ j, (Instr.findKey 131 (.agg #[.int .i64 x]) es.toList).run Tryd.prog w = .ok (some (j, .bool true)) w ∧ x ∈ ids) := by
  obtain ⟨es, clock, h1, h2, h3, h4⟩ := h.out
  obtain ⟨l, hl⟩ := key53 hx
  refine ⟨es, clock, h1, h2, h3, ?_⟩
  rcases keyed53.find w hl es.toList (fun e he => by
    have hm : e.key ∈ es.toList.map (fun e => e.key) := List.mem_map.2 ⟨e, he, rfl⟩
    rw [h2] at hm
    obtain ⟨y, hy, he2⟩ := List.mem_map.1 hm
    rw [← he2]
    exact key53 (h4 y hy)) with ⟨f1, f2⟩ | ⟨j, e, f1, f2, f3⟩
  · refine Or.inl ⟨f1, fun hm => ?_⟩
    have hm2 : Value.agg #[.int .i64 x] ∈ es.toList.map (fun e => e.key) := by rw [h2]; exact List.mem_map.2 ⟨x, hm, rfl⟩
    obtain ⟨e, he, hk⟩ := List.mem_map.1 hm2
    exact f2 e he hk
  · have hm0 : e ∈ es.toList := List.mem_of_getElem? f2
    rw [h3 e hm0] at f1
    refine Or.inr ⟨j, f1, ?_⟩
    have hm : e.key ∈ es.toList.map (fun e => e.key) := List.mem_map.2 ⟨e, hm0, rfl⟩
    rw [h2, f3] at hm
    obtain ⟨y, hy, he2⟩ := List.mem_map.1 hm
    injection he2 with he2
    have : y = x := by
      have := congrArg (fun a => a.toList) he2
      simp at this
      exact this
    rw [← this]; exact hy
theorem SetM.lookup {w : World} {b : Nat} {ids : List Int} (h : SetM w b ids) (x : Int) (hx : inI x) : (Instr.lookup 129 (.map (some b)) (.agg #[.int .i64 x]) false).run Tryd.prog w = .ok (.bool (decide (x ∈ ids))) w := by
  obtain ⟨l, hl⟩ := key53 hx
  obtain ⟨es, clock, h1, h2, h3, hf⟩ := h.find x hx
  rcases hf with ⟨f1, f2⟩ | ⟨j, f1, f2⟩
  · simp [Instr.lookup, run_underlying Tryd.underlying129, MapKept.run_getObj_map h1, keyed53.check w _ hl, f1, zero4, Result.andThen, f2]
  · simp [Instr.lookup, run_underlying Tryd.underlying129, MapKept.run_getObj_map h1, keyed53.check w _ hl, f1, Result.andThen, f2]
theorem SetM.store {w : World} {b : Nat} {ids : List Int} (h : SetM w b ids) (x : Int) (hx : inI x) (hn : x ∉ ids) : ∃ w', (Instr.mapUpdate 129 (.map (some b)) (.agg #[.int .i64 x]) (.bool true)).run Tryd.prog w = .ok () w' ∧ SetM w' b (ids ++ [x]) ∧ w.grownBy w' (some b) := by
  obtain ⟨l, hl⟩ := key53 hx
  obtain ⟨es, clock, h1, h2, h3, hf⟩ := h.find x hx
  rcases hf with ⟨f1, f2⟩ | ⟨j, f1, f2⟩
  · refine ⟨ChangeMaps.setBlock w b (.map (es.push { key := .agg #[.int .i64 x], val := .bool true, born := clock }) (clock + 1)), ?_, ?_, ?_⟩
    · simp [Instr.mapUpdate, run_underlying Tryd.underlying129, MapKept.run_getObj_map h1, keyed53.check w false hl, f1, MapKept.run_setObj_map _ h1, Result.andThen, ChangeMaps.setBlock]
    · refine ⟨_, _, ChangeMaps.heap_setBlock_same h1 _, ?_, ?_, ?_⟩
      · simp [h2]
      · intro e he
        rw [Array.toList_push] at he
        rcases List.mem_append.1 he with he | he
        · exact h3 e he
        · rw [List.mem_singleton.1 he]
      · intro y hy
        rcases List.mem_append.1 hy with hy | hy
        · obtain ⟨_, _, _, _, _, h4⟩ := h.out
          exact h4 y hy
        · rw [List.mem_singleton.1 hy]; exact hx
    · exact ⟨rfl, rfl, rfl, by simp [ChangeMaps.setBlock], fun k hk hne => by
        show (w.heap.setIfInBounds b _)[k]? = _
        rw [Array.getElem?_setIfInBounds_ne (fun e => hne (by rw [e]))]⟩
  · exact absurd f2 hn
def okAt (cv : K → K → Int) (l : List K) (i : Nat) : Prop := (i = 0 ∨ cv (gt l (i - 1)) (gt l i) < 0) ∧ ∀ j, j < i → (gt l j).2 ≠ (gt l i).2
instance (cv : K → K → Int) (l : List K) (i : Nat) : Decidable (okAt cv l i) := by unfold okAt; infer_instance
def sortedK (cv : K → K → Int) (l : List K) : Bool := decide (∀ i, i < l.length → okAt cv l i)
theorem mem_ids (l : List K) (i : Nat) (hi : i ≤ l.length) (x : Int) : x ∈ (l.take i).map (fun k => k.2) ↔ ∃ j, j < i ∧ (gt l j).2 = x := by
  rw [List.mem_map]
  constructor
  · rintro ⟨k, hk, rfl⟩
    obtain ⟨j, hj, rfl⟩ := List.mem_iff_getElem.1 hk
    rw [List.length_take] at hj
    exact ⟨j, by omega, by rw [gt_of l j (by omega), List.getElem_take]⟩
  · rintro ⟨j, hj, rfl⟩
    refine ⟨gt l j, ?_, rfl⟩
    rw [gt_of l j (by omega)]
    exact List.mem_iff_getElem.2 ⟨j, by rw [List.length_take]; omega, by rw [List.getElem_take]⟩
section
variable {mn : Int} {cv : K → K → Int} (hc : Cmp26 mn cv)
include hc
set_option maxHeartbeats 8000000 in
set_option maxRecDepth 100000 in
theorem keySorted (A0 : Option Addr) (c0 : Nat) (l : List K) (w : World) (hr : kp.C w A0 l.length l) (hl : l.length ≤ 1000000) (hid : ∀ k ∈ l, inI k.2) :
    Calls Tryd.prog 75 #[.int .u64 mn, .slice A0 l.length c0] w fun e w' => e = .returned (.bool (sortedK cv l)) ∧ Below w.heap.size w w' := by
  have HR := Aside0.mk hr
  have H := Aside0.mk hc
  have HID := Aside0.mk hid
  have hmk : ∀ W : World, (Instr.makeMap 129 none).run Tryd.prog W = .ok (.map (some W.heap.size)) (W.alloc (.map #[] 0)) := fun W => by simp [Instr.makeMap, run_underlying Tryd.underlying129, Result.andThen]
  have HM0 := Aside0.mk (SetM.made w)
  have HB0 := Aside0.mk (below_alloc (Below.refl w.heap.size w) (.map #[] 0))
  clear hr hc hid
  go_enter Tryd.func75, Tryd.ntmps75
  go_wp2
  go_loopw [11] (fun i wr => Sl1 (fun i wr => i ≤ l.length ∧ Aside0 (Below w.heap.size w wr) ∧ Aside0 (SetM wr w.heap.size ((l.take i).map (fun k => k.2))) ∧ Aside0 (∀ t, t < i → okAt cv l t)) i wr) (fun i _ => l.length - (intOf i).toNat)
  case atStart => exact ⟨0, by simp, Nat.zero_le _, HB0, HM0, ⟨fun t ht => by omega⟩⟩
  case round =>
    clear HM0 HB0
    obtain ⟨i, rfl, h1, HB, HM, HN⟩ := hrel.out
    by_cases hlt : i < l.length
    · obtain ⟨ad, e2, c1, c2⟩ := C_at (Kd.C_below HR.out HB.out) i hlt
      subst e2
      generalize hx : gt l i = x at c1 c2
      have HX := Aside0.mk hx
      have HIX : Aside0 (inI x.2) := ⟨by rw [← hx]; exact HID.out _ (gt_mem l i hlt)⟩
      have n1 : (i : Int) < (l.length : Int) := by omega
      clear hx
      go_upto_region 5 with (fail)
      have HB1 := Aside0.mk (below_alloc HB.out (.cells #[.int .u64 x.1, .int .i64 x.2] 47))
      have HM1 := Aside0.mk (HM.out.below (below_alloc (Below.refl wr.heap.size wr) (.cells #[.int .u64 x.1, .int .i64 x.2] 47)))
      have HK1 := Aside0.mk (blk_new wr (.cells #[.int .u64 x.1, .int .i64 x.2] 47))
      clear c1 c2 HB HM
      generalize wr.alloc (.cells #[.int .u64 x.1, .int .i64 x.2] 47) = w2 at HB1 HM1 HK1 ⊢
      generalize wr.heap.size = kb at HK1 ⊢
      go_cut [35] (fun c wx => ∃ bb : Bool, c = .bool bb ∧ Aside0 (bb = decide (¬ okAt cv l i)) ∧ Aside0 (Below w.heap.size w wx) ∧ Aside0 (SetM wx w.heap.size ((l.take i).map (fun k => k.2))) ∧ Aside0 (wx.heap[kb]? = some (.cells #[.int .u64 x.1, .int .i64 x.2] 47 (0, 0))))
      case first =>
        rcases Nat.eq_zero_or_pos i with h0 | h0
        · have hok : decide (¬ okAt cv l i) = false := decide_eq_false (fun h => h ⟨Or.inl h0, fun j hj => by omega⟩)
          have hlk := HM1.out.lookup x.2 HIX.out
          rw [show decide (x.2 ∈ (l.take i).map (fun k => k.2)) = false from decide_eq_false (fun h => by obtain ⟨j, hj, _⟩ := (mem_ids l i h1 _).1 h; omega)] at hlk
          have c3 := (blk_cell HK1.out 1).trans rfl
          have g1 : decide ((0 : Int) < (i : Int)) = false := decide_eq_false (by omega)
          have hlkN := fun n => show (Instr.lookup 129 (.map (some w.heap.size)) (.agg #[.int .i64 x.2]) false).run Tryd.prog (w2.drewN n) = .ok (.bool false) (w2.drewN n) from by
            have h := (show SetM (w2.drewN n) w.heap.size ((l.take i).map (fun k => k.2)) from HM1.out.moved rfl).lookup x.2 HIX.out
            rw [show decide (x.2 ∈ (l.take i).map (fun k => k.2)) = false from decide_eq_false (fun h => by obtain ⟨j, hj, _⟩ := (mem_ids l i h1 _).1 h; omega)] at h
            exact h
          go_quiet (fail)
          go_wp2_with fail
          go_meet
          exact ⟨false, rfl, ⟨hok.symm⟩, ⟨pw_below_drewN HB1.out _⟩, ⟨HM1.out.moved rfl⟩, ⟨blk_drewN HK1.out _⟩⟩
        · obtain ⟨ad2, e2, c1, c2⟩ := C_at (Kd.C_below HR.out HB1.out) (i - 1) (by omega)
          obtain rfl := Option.some.inj e2
          have c3 := (blk_cell HK1.out 0).trans rfl
          have c4 := (blk_cell HK1.out 1).trans rfl
          generalize hy : gt l (i - 1) = y at c1 c2
          have HY := Aside0.mk hy
          have g1 : decide ((0 : Int) < (i : Int)) = true := decide_eq_true (by omega)
          have g2 : (0 : Int) < (i : Int) := by omega
          have n2 : (i : Int) - 1 < (l.length : Int) := by omega
          have n3 : ((i : Int) - 1).toNat = i - 1 := by omega
          have n5 : (0 : Int) ≤ (i : Int) - 1 := by omega
          have n6 : (1 : Int) ≤ (i : Int) := by omega
          have n7 : IntKind.i64.wrap ((i : Int) - 1) = (i : Int) - 1 := IntWalk.i64_in _ (by omega)
          clear hy e2
          by_cases hcv : cv y x < 0
          · have HCV := Aside0.mk hcv
            have k1 : decide (cv y x < 0) = true := decide_eq_true hcv
            clear hcv
            cases hmem : decide (x.2 ∈ (l.take i).map (fun k => k.2)) with
            | false =>
              have hok : decide (¬ okAt cv l i) = false := decide_eq_false (fun h => h ⟨Or.inr (by rw [HX.out, HY.out]; exact HCV.out), fun j hj hje => by
                have := of_decide_eq_false hmem
                exact this ((mem_ids l i h1 _).2 ⟨j, hj, by rw [hje, HX.out]⟩)⟩)
              have HOK := Aside0.mk hok
              have HMEM := Aside0.mk hmem
              clear hmem hok
              have lk1 : (Instr.lookup 129 (.map (some w.heap.size)) (.agg #[.int .i64 x.2]) false).run Tryd.prog w2.drew = .ok (.bool false) w2.drew := by
                have h := (show SetM w2.drew w.heap.size ((l.take i).map (fun k => k.2)) from HM1.out.moved rfl).lookup x.2 HIX.out
                rwa [HMEM.out] at h
              go_region_held3 (fun w' => w'.cell? (ad.add ((i - 1) * 2)) = some (.int .u64 y.1) ∧ w'.cell? ⟨(ad.add ((i - 1) * 2)).block, (ad.add ((i - 1) * 2)).off + 1, none⟩ = some (.int .i64 y.2) ∧ w'.cell? ⟨kb, 0, none⟩ = some (.int .u64 x.1) ∧ w'.cell? ⟨kb, 1, none⟩ = some (.int .i64 x.2) ∧ (Instr.lookup 129 (.map (some w.heap.size)) (.agg #[.int .i64 x.2]) false).run Tryd.prog w' = .ok (.bool false) w') (first | exact ⟨c1, c2, c3, c4, lk1⟩ | exact ⟨cells_below c1 hb, cells_below c2 hb, cells_below c3 hb, cells_below c4 hb, (HM2.out.lookup x.2 HIX.out).trans (by rw [HMEM.out])⟩) (first | (go_at_call 41; (with_reducible refine (keyLess H.out y x _).mono ?_); rintro e w3 ⟨rfl, hb0⟩; have hb : Below w2.heap.size w2 w3 := (Below.drew (Below.refl _ _)).trans hb0; have HB2 := Aside0.mk (below_step HB1.out hb); have HM2 := Aside0.mk (HM1.out.below hb); have HK2 := Aside0.mk (blk_below HK1.out hb); clear hb0))
              all_goals (go_wp2_with fail; go_meet; exact ⟨_, rfl, ⟨HOK.out.symm⟩, HB2, HM2, HK2⟩)
            | true =>
              have hok : decide (¬ okAt cv l i) = true := decide_eq_true (fun h => by
                obtain ⟨j, hj, hje⟩ := (mem_ids l i h1 _).1 (of_decide_eq_true hmem)
                exact h.2 j hj (by rw [hje, HX.out]))
              have HOK := Aside0.mk hok
              have HMEM := Aside0.mk hmem
              clear hmem hok
              have lk1 : (Instr.lookup 129 (.map (some w.heap.size)) (.agg #[.int .i64 x.2]) false).run Tryd.prog w2.drew = .ok (.bool true) w2.drew := by
                have h := (show SetM w2.drew w.heap.size ((l.take i).map (fun k => k.2)) from HM1.out.moved rfl).lookup x.2 HIX.out
                rwa [HMEM.out] at h
              go_region_held3 (fun w' => w'.cell? (ad.add ((i - 1) * 2)) = some (.int .u64 y.1) ∧ w'.cell? ⟨(ad.add ((i - 1) * 2)).block, (ad.add ((i - 1) * 2)).off + 1, none⟩ = some (.int .i64 y.2) ∧ w'.cell? ⟨kb, 0, none⟩ = some (.int .u64 x.1) ∧ w'.cell? ⟨kb, 1, none⟩ = some (.int .i64 x.2) ∧ (Instr.lookup 129 (.map (some w.heap.size)) (.agg #[.int .i64 x.2]) false).run Tryd.prog w' = .ok (.bool true) w') (first | exact ⟨c1, c2, c3, c4, lk1⟩ | exact ⟨cells_below c1 hb, cells_below c2 hb, cells_below c3 hb, cells_below c4 hb, (HM2.out.lookup x.2 HIX.out).trans (by rw [HMEM.out])⟩) (first | (go_at_call 41; (with_reducible refine (keyLess H.out y x _).mono ?_); rintro e w3 ⟨rfl, hb0⟩; have hb : Below w2.heap.size w2 w3 := (Below.drew (Below.refl _ _)).trans hb0; have HB2 := Aside0.mk (below_step HB1.out hb); have HM2 := Aside0.mk (HM1.out.below hb); have HK2 := Aside0.mk (blk_below HK1.out hb); clear hb0))
              all_goals (go_wp2_with fail; go_meet; exact ⟨_, rfl, ⟨HOK.out.symm⟩, HB2, HM2, HK2⟩)
          · have hok : decide (¬ okAt cv l i) = true := decide_eq_true (fun h => by
              rcases h.1 with h | h
              · omega
              · rw [HX.out, HY.out] at h; exact hcv h)
            have HOK := Aside0.mk hok
            have k1 : decide (cv y x < 0) = false := decide_eq_false hcv
            have k3 : 0 ≤ cv y x := by omega
            clear hcv hok
            first | (go_region_with ((go_at_call 41; (with_reducible refine (keyLess H.out y x _).mono ?_); rintro e w3 ⟨rfl, hb0⟩; have hb : Below w2.heap.size w2 w3 := (Below.drew (Below.refl _ _)).trans hb0; have HB2 := Aside0.mk (below_step HB1.out hb); have HM2 := Aside0.mk (HM1.out.below hb); have HK2 := Aside0.mk (blk_below HK1.out hb); clear hb0; have c5 := (blk_cell HK2.out 1).trans rfl; clear hb c1 c2 c3 c4))) | fail
            all_goals (go_wp2_with fail; go_meet; exact ⟨_, rfl, ⟨HOK.out.symm⟩, HB2, HM2, HK2⟩)
      case rest =>
        obtain ⟨bb, rfl, HBB, HB2, HM2, HK2⟩ := hcut
        by_cases hok : okAt cv l i
        · have HOK := Aside0.mk hok
          obtain rfl : bb = false := by rw [HBB.out]; exact decide_eq_false (fun h => h hok)
          have c5 := (blk_cell HK2.out 1).trans rfl
          have hnm : x.2 ∉ (l.take i).map (fun k => k.2) := fun h => by
            obtain ⟨j, hj, hje⟩ := (mem_ids l i h1 _).1 h
            exact hok.2 j hj (by rw [hje, HX.out])
          obtain ⟨w4, hrun, hS, hG⟩ := HM2.out.store x.2 HIX.out hnm
          have HS4 := Aside0.mk hS
          have HG4 := Aside0.mk hG
          clear hok hnm hS hG
          go_wp2
          refine ⟨⟨i + 1, by simp, by omega, ⟨HB2.out.grown HG4.out HB2.out.size (fun k hk => by injection hk with hk; omega)⟩, ⟨?_⟩, ⟨fun t ht => ?_⟩⟩, ?_⟩
          · rw [List.take_succ_eq_append_getElem hlt, List.map_append]
            have h := HS4.out
            rw [← HX.out, gt_of l i hlt] at h
            exact h
          · by_cases e : t = i
            · subst e; exact HOK.out
            · exact HN.out t (by omega)
          · show l.length - ((i : Int) + 1).toNat < l.length - (i : Int).toNat
            omega
        · obtain rfl : bb = true := by rw [HBB.out]; exact decide_eq_true hok
          have hr : sortedK cv l = false := decide_eq_false (fun h => hok (h i hlt))
          have HRR := Aside0.mk hr
          clear hok hr
          go_wp2
          go_ret
          exact ⟨by rw [HRR.out]; rfl, HB2.out⟩
    · obtain rfl : i = l.length := by omega
      have hr : sortedK cv l = true := decide_eq_true (fun t ht => HN.out t ht)
      have HRR := Aside0.mk hr
      clear hr
      go_wp2
      go_ret
      exact ⟨by rw [HRR.out]; rfl, HB.out⟩
end
open Go.Proofs.YtnkhnnojdlgfjaaDoor.TC in
section
open Go.Proofs.YtnkhnnojdlgfjaaDoor.TC
def lagf (mn v : Int) : Int := wrap64 (IntKind.u64.wrap (v - mn))
def cvf (mn : Int) (x y : K) : Int := if lagf mn x.1 < lagf mn y.1 then -1 else if lagf mn x.1 > lagf mn y.1 then 1 else if x.2 < y.2 then -1 else if x.2 > y.2 then 1 else 0
def cmpf (a b : Int) : Int := if a < b then -1 else if a > b then 1 else 0
theorem compare_f (a b : Int) : cmp_Compare_int.f a b = some (cmpf a b) := by
  unfold cmp_Compare_int.f cmp_isNaN_int.f cmpf
  simp only [Option.bind_some, bne_self_eq_false, Bool.false_eq_true, if_false]
  split
  · rfl
  · split <;> rfl
theorem or_f (a b : Int) : cmp_Or_int.f 3 [a, b] = some (if a = 0 then (if b = 0 then 0 else b) else a) := by
  by_cases h : a = 0
  · subst h
    by_cases h2 : b = 0
    · subst h2
      rw [if_pos rfl, if_pos rfl]
      kernel_rfl
    · rw [if_pos rfl, if_neg h2]
      simp [cmp_Or_int.f, cmp_Or_int.l0, rd, wrap64, h2]
  · rw [if_neg h]
    simp [cmp_Or_int.f, cmp_Or_int.l0, rd, h]
theorem cmp26 (mn : Int) : Cmp26 mn (cvf mn) := ⟨fun W x y => by
  refine key_compare.calls 3 mn x.1 x.2 y.1 y.2 (cvf mn x y) W ?_
  unfold key_compare.f turn_Lag.f
  simp only [Option.bind_some, compare_f, or_f]
  congr 1
  unfold cmpf cvf lagf
  repeat' split
  all_goals first | rfl | omega⟩
theorem ord (mn : Int) : Ord (cvf mn) := ⟨fun x y h => by
  unfold cvf at h ⊢
  repeat' split at h
  all_goals (repeat' split) <;> omega, fun x y z h k => by
  unfold cvf at h k ⊢
  repeat' split at h
  all_goals (repeat' split at k) <;> (repeat' split) <;> omega⟩
end
end Go.Proofs.YtnkhnnojdlgfjaaDoor.Tk
