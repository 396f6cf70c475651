/- A set of numbers kept as a map with struct keys. No condition. Written by hand. -/
import Derived.Test.YtahnkldkbbkflaaKLib7
import Derived.DeepKeys4
import Derived.Maps.OwnSet
import Derived.Maps.OwnOps
namespace Go.Proofs.Ytahnkldkbbkflaa.Srt
open Go.RowKit Go Go.Proofs Go.Proofs.Ytahnkldkbbkflaa Go.Proofs.Ytahnkldkbbkflaa.Ky Go.Proofs.YtahnkldkbbkflaaW.PrintWords Go.Proofs.YtahnkldkbbkflaaW.PrintLast Go.Proofs.YtahnkldkbbkflaaW.PrintMore
set_option linter.unusedVariables false
set_option linter.unusedSimpArgs false
def inI (x : Int) : Prop := -9223372036854775808 ≤ x ∧ x ≤ 9223372036854775807
theorem wf_of {x : Int} (h : inI x) : (Lit.int .i64 x).wf = true := by
  obtain ⟨h1, h2⟩ := h
  simp [Lit.wf, IntKind.min, IntKind.max, IntKind.signed, IntKind.bits]
  omega
theorem laidOut : laidOutB Try.prog = true := by kernel_rfl
theorem row53 : (53 : TypeId) < Try.prog.types.size := of_decide_eq_true (by kernel_rfl)
theorem wide53 : (match Try.prog.underlying 53 with | some (.array _ _) | some (.struct _) => true | _ => false) = true := by rw [Try.underlying53]
theorem keyed53 : Maps.Keyed Try.prog 53 := Maps.Keyed.of_law (deep_law_laid laidOut (m := 2) (by omega) row53 (by kernel_rfl) wide53)
theorem key53 {x : Int} (h : inI x) : ∃ l, keyOf Try.prog 53 (.agg #[.int .i64 x]) = some l := by
  have hw := wf_of h
  have h2 : Try.prog.cellsOf 3 = 1 := by kernel_rfl
  have h53 : Try.prog.cellsOf 53 = 1 := by kernel_rfl
  have hk : Try.prog.keyType 53 = true := by kernel_rfl
  have hf : (Value.agg #[.int .i64 x]).formed Try.prog 53 = true := by simp [Value.formed, Try.underlying53, h53]
  have e1 : ∀ d, Try.prog.keyLits (d + 1) 3 [.int .i64 x] = some [.int .i64 x] := fun d => by
    unfold Program.keyLits
    rw [Try.underlying3]
    simp [hw]
  have e2 : ∀ d, ∃ l, Try.prog.keyLits (d + 2) 53 [.int .i64 x] = some l := fun d => by
    unfold Program.keyLits
    rw [Try.underlying53]
    simp [h53, h2, e1 d]
  obtain ⟨m, hm⟩ : ∃ m, Try.prog.types.size = m + 1 := ⟨Try.prog.types.size - 1, (Nat.sub_add_cancel (Nat.lt_of_le_of_lt (Nat.zero_le 53) row53)).symm⟩
  obtain ⟨l, hl⟩ := e2 m
  unfold keyOf
  rw [Try.underlying53]
  simp only [hk, hf, Bool.and_self, if_true]
  rw [hm, show (Value.agg #[Value.int .i64 x]).cells.toList = [.int .i64 x] from rfl, show m + 1 + 1 = m + 2 from rfl, hl]
  exact ⟨_, rfl⟩
theorem zero4 (w : World) : (zeroValue 4).run Try.prog w = .ok (.bool false) w := by kernel_rfl
structure SetM (w : World) (b : Nat) (ids : List Int) : Prop where mk ::
  out : ∃ es clock, w.heap[b]? = some (.map es clock) ∧ es.toList.map (fun e => e.key) = ids.map (fun x => Value.agg #[.int .i64 x]) ∧ (∀ e ∈ es.toList, e.val = .bool true) ∧ ∀ x ∈ ids, inI x
theorem SetM.made (w : World) : SetM (w.alloc (.map #[] 0)) w.heap.size [] := ⟨_, _, heap_alloc_new w _, rfl, fun e h => by simp at h, fun x h => by cases h⟩
theorem SetM.lt {w : World} {b : Nat} {ids : List Int} (h : SetM w b ids) : b < w.heap.size := by
  obtain ⟨es, clock, h1, _⟩ := h.out
  exact (Array.getElem?_eq_some_iff.1 h1).1
theorem SetM.moved {w w' : World} {b : Nat} {ids : List Int} (h : SetM w b ids) (hb : w'.heap[b]? = w.heap[b]?) : SetM w' b ids := by
  obtain ⟨es, clock, h1, h2⟩ := h.out
  exact ⟨es, clock, hb.trans h1, h2⟩
theorem SetM.below {w w' : World} {b : Nat} {ids : List Int} (h : SetM w b ids) (hb : Below w.heap.size w w') : SetM w' b ids := h.moved (hb.block b h.lt)
theorem SetM.find {w : World} {b : Nat} {ids : List Int} (h : SetM w b ids) (x : Int) (hx : inI x) : ∃ es clock, w.heap[b]? = some (.map es clock) ∧ es.toList.map (fun e => e.key) = ids.map (fun x => Value.agg #[.int .i64 x]) ∧ (∀ e ∈ es.toList, e.val = .bool true) ∧
    (((Instr.findKey 53 (.agg #[.int .i64 x]) es.toList).run Try.prog w = .ok none w ∧ x ∉ ids) ∨ ∃ j, (Instr.findKey 53 (.agg #[.int .i64 x]) es.toList).run Try.prog w = .ok (some (j, .bool true)) w ∧ x ∈ ids) := by
  obtain ⟨es, clock, h1, h2, h3, h4⟩ := h.out
  obtain ⟨l, hl⟩ := key53 hx
  refine ⟨es, clock, h1, h2, h3, ?_⟩
  rcases keyed53.find w hl es.toList (fun e he => by
    have hm : e.key ∈ es.toList.map (fun e => e.key) := List.mem_map.2 ⟨e, he, rfl⟩
    rw [h2] at hm
    obtain ⟨y, hy, he2⟩ := List.mem_map.1 hm
    rw [← he2]
    exact key53 (h4 y hy)) with ⟨f1, f2⟩ | ⟨j, e, f1, f2, f3⟩
  · refine Or.inl ⟨f1, fun hm => ?_⟩
    have hm2 : Value.agg #[.int .i64 x] ∈ es.toList.map (fun e => e.key) := by rw [h2]; exact List.mem_map.2 ⟨x, hm, rfl⟩
    obtain ⟨e, he, hk⟩ := List.mem_map.1 hm2
    exact f2 e he hk
  · have hm0 : e ∈ es.toList := List.mem_of_getElem? f2
    rw [h3 e hm0] at f1
    refine Or.inr ⟨j, f1, ?_⟩
    have hm : e.key ∈ es.toList.map (fun e => e.key) := List.mem_map.2 ⟨e, hm0, rfl⟩
    rw [h2, f3] at hm
    obtain ⟨y, hy, he2⟩ := List.mem_map.1 hm
    injection he2 with he2
    have : y = x := by
      have := congrArg (fun a => a.toList) he2
      simp at this
      exact this
    rw [← this]; exact hy
theorem SetM.lookup {w : World} {b : Nat} {ids : List Int} (h : SetM w b ids) (x : Int) (hx : inI x) : (Instr.lookup 51 (.map (some b)) (.agg #[.int .i64 x]) false).run Try.prog w = .ok (.bool (decide (x ∈ ids))) w := by
  obtain ⟨l, hl⟩ := key53 hx
  obtain ⟨es, clock, h1, h2, h3, hf⟩ := h.find x hx
  rcases hf with ⟨f1, f2⟩ | ⟨j, f1, f2⟩
  · simp [Instr.lookup, run_underlying Try.underlying51, MapKept.run_getObj_map h1, keyed53.check w _ hl, f1, zero4, Result.andThen, f2]
  · simp [Instr.lookup, run_underlying Try.underlying51, MapKept.run_getObj_map h1, keyed53.check w _ hl, f1, Result.andThen, f2]
/-- a number that is not in it -/
theorem SetM.store {w : World} {b : Nat} {ids : List Int} (h : SetM w b ids) (x : Int) (hx : inI x) (hn : x ∉ ids) : ∃ w', (Instr.mapUpdate 51 (.map (some b)) (.agg #[.int .i64 x]) (.bool true)).run Try.prog w = .ok () w' ∧ SetM w' b (ids ++ [x]) ∧ w.grownBy w' (some b) := by
  obtain ⟨l, hl⟩ := key53 hx
  obtain ⟨es, clock, h1, h2, h3, hf⟩ := h.find x hx
  rcases hf with ⟨f1, f2⟩ | ⟨j, f1, f2⟩
  · refine ⟨ChangeMaps.setBlock w b (.map (es.push { key := .agg #[.int .i64 x], val := .bool true, born := clock }) (clock + 1)), ?_, ?_, ?_⟩
    · simp [Instr.mapUpdate, run_underlying Try.underlying51, MapKept.run_getObj_map h1, keyed53.check w false hl, f1, MapKept.run_setObj_map _ h1, Result.andThen, ChangeMaps.setBlock]
    · refine ⟨_, _, ChangeMaps.heap_setBlock_same h1 _, ?_, ?_, ?_⟩
      · simp [h2]
      · intro e he
        rw [Array.toList_push] at he
        rcases List.mem_append.1 he with he | he
        · exact h3 e he
        · rw [List.mem_singleton.1 he]
      · intro y hy
        rcases List.mem_append.1 hy with hy | hy
        · obtain ⟨_, _, _, _, _, h4⟩ := h.out
          exact h4 y hy
        · rw [List.mem_singleton.1 hy]; exact hx
    · exact ⟨rfl, rfl, rfl, by simp [ChangeMaps.setBlock], fun k hk hne => by
        show (w.heap.setIfInBounds b _)[k]? = _
        rw [Array.getElem?_setIfInBounds_ne (fun e => hne (by rw [e]))]⟩
  · exact absurd f2 hn
end Go.Proofs.Ytahnkldkbbkflaa.Srt
