/- Turning keys on keeps their order; no condition. -/
import Derived.Test.YtahnkldkbbkflaaQKeyTurnsx3
import Derived.Test.YtahnkldkbbkflaaKPure2
namespace Go.Proofs.Ytahnkldkbbkflaa.QKeyTurns
open Go.RowKit Go.Proofs Go.Proofs.Ytahnkldkbbkflaa Go.Proofs.Ytahnkldkbbkflaa.Ky Go.Proofs.Ytahnkldkbbkflaa.Srt Go.Proofs.Ytahnkldkbbkflaa.KC Go.Proofs.Ytahnkldkbbkflaa.KP Go.Proofs.YtahnkldkbbkflaaW.PrintWords Go.Proofs.YtahnkldkbbkflaaW.PrintLast
set_option linter.unusedVariables false
section
def un (k : K) : S26 := ⟨k.1, k.2⟩
theorem pr_un (l : List K) : (l.map un).map (fun s => (s.f0, s.f1)) = l := by
  rw [List.map_map]
  exact List.map_id l
theorem rd_un (l : List K) (i : Nat) (h : i < l.length) : rd_T26 (l.map un) (i : Int) = un (gt l i) := by
  unfold rd_T26
  rw [Int.toNat_natCast, List.getD_eq_getElem?_getD, List.getElem?_map, List.getElem?_eq_getElem h, gt_of l i h]
  rfl
theorem Sort_un {mn : Int} {l : List K} (h : okR l = true) : key_Sort.f mn (l.map un) = some ((sortK mn l).map un) := by
  unfold key_Sort.f
  rw [pr_un, if_pos h]; rfl
theorem Sorted_un {mn : Int} {l : List K} (h : okR l = true) : key_Sorted.f mn (l.map un) = some (sortedK (cvf mn) l) := by
  unfold key_Sorted.f
  rw [pr_un, if_pos h]
theorem First_un {mn : Int} {l : List K} (h : okR l = true) : key_First.f mn (l.map un) = some ((firstK (cvf mn) l).1, (firstK (cvf mn) l).2, decide (0 < l.length)) := by
  unfold key_First.f
  rw [pr_un, if_pos h, List.length_map]
theorem Put_un {mn : Int} {l : List K} (k : K) (h : okR l = true) : key_Put.f mn (l.map un) k.1 k.2 = some ((putK (cvf mn) l k).1.map un, (putK (cvf mn) l k).2) := by
  unfold key_Put.f
  rw [pr_un, if_pos h]; rfl
theorem Drop_un {mn : Int} {l : List K} (id : Int) (h : okR l = true) : key_Drop.f mn (l.map un) id = some ((dropK (cvf mn) l id).1.map un, (dropK (cvf mn) l id).2) := by
  unfold key_Drop.f
  rw [pr_un, if_pos h]; rfl
theorem okU_of {l : List Int} (h : l.length * 2 ≤ 140737488351232) (k : ∀ x ∈ l, (Lit.int .u16 x).wf = true) : okU l = true := by
  unfold okU
  rw [Bool.and_eq_true]
  refine ⟨decide_eq_true (by omega), List.all_eq_true.2 fun x hx => decide_eq_true ?_⟩
  have := k x hx
  simp [Lit.wf, IntKind.min, IntKind.max, IntKind.signed, IntKind.bits] at this; omega
theorem Made_un {mn : Int} {l : List Int} (h : okU l = true) : turnspitlaw08_Made.f mn l = some ((madeK mn l).map un) := by
  unfold turnspitlaw08_Made.f
  rw [if_pos h]; rfl

theorem wfu {n : Int} (h : (Lit.int .u64 n).wf = true) : 0 ≤ n ∧ n ≤ 18446744073709551615 := by
  simp [Lit.wf, IntKind.min, IntKind.max, IntKind.signed, IntKind.bits] at h; omega
theorem wfh {n : Int} (h : (Lit.int .u16 n).wf = true) : 0 ≤ n ∧ n ≤ 65535 := by
  simp [Lit.wf, IntKind.min, IntKind.max, IntKind.signed, IntKind.bits] at h; omega
theorem wfi {n : Int} (h : (Lit.int .i64 n).wf = true) : -9223372036854775808 ≤ n ∧ n ≤ 9223372036854775807 := by
  simp [Lit.wf, IntKind.min, IntKind.max, IntKind.signed, IntKind.bits] at h; omega
end

def sh (m : Int) (l : List K) : List K := l.map fun k => (IntKind.u64.wrap (k.1 + m), k.2)
theorem l0_step {mn m : Int} {l : List K} (hl : l.length ≤ 40) (h1 : key_Sorted.f (IntKind.u64.wrap (mn + m)) ((sh m l).map un) = some true) (h2 : key_Sorted.f (IntKind.u64.wrap (mn + Int.tmod m 4611686018427387904)) (l.map un) = some true) :
    ∀ (d i : Nat), d + i = l.length → Evt (fun k => turnspitlaw08_KeyTurns.l0 k mn m true (l.map un) ((sh m (l.take i)).map un) (i : Int)) true
  | 0, i, hi => by
    refine Evt.step (Evt.now true) fun k => ?_
    rw [turnspitlaw08_KeyTurns.l0, List.length_map, if_neg (by omega), if_pos rfl, List.take_of_length_le (by omega), h1]
    simp only [Option.bind_some, if_true, h2]
  | d + 1, i, hi => by
    have hlt : i < l.length := by omega
    refine Evt.step (l0_step hl h1 h2 d (i + 1) (by omega)) fun k => ?_
    rw [turnspitlaw08_KeyTurns.l0, List.length_map, if_pos (by omega), if_pos (by omega), if_pos (by simp only [sh, List.length_map, List.length_take]; omega)]
    rw [rd_un l i hlt, show wrap64 ((i : Int) + 1) = ((i + 1 : Nat) : Int) from by unfold wrap64; omega]
    rw [List.take_succ_eq_append_getElem hlt, sh, sh, List.map_append, List.map_append, gt_of l i hlt]
    rfl
theorem turns : turnspitlaw08_KeyTurns.Pure := by
  intro a0 l1 a2 w0 _ hl hw w2
  have g0 := wfu w0
  have g2 := wfu w2
  obtain ⟨hI, hlen⟩ := made_inv (l := l1) g0 (fun x hx => wfh (hw x hx))
  have hok := hI.ok hlen
  have hS := sortK_SS (mn := a0) hI.nd
  have hP := sortK_perm a0 (madeK a0 l1)
  have hI2 := hI.perm hP.symm
  have hlen2 : (sortK a0 (madeK a0 l1)).length ≤ 40 := by rw [hP.length_eq]; exact hlen
  have hok2 := hI2.ok hlen2
  have hu : ∀ x : Int, 0 ≤ IntKind.u64.wrap x ∧ IntKind.u64.wrap x ≤ 18446744073709551615 := fun x => by rw [w64]; omega
  have hok3 : okR (sh a2 (sortK a0 (madeK a0 l1))) = true := by
    refine okR_of (by rw [sh, List.length_map]; omega) fun x hx => ?_
    obtain ⟨k, hk, rfl⟩ := List.mem_map.1 hx
    exact ⟨hu _, by have := (hI2.at_ k hk).1; simp only; omega⟩
  have s1 := turn_all g0 g2 hS (fun k hk => (hI2.at_ k hk).2.1)
  have s2 := turn_min (d := Int.tmod a2 4611686018427387904) g0 (by rw [Int.tmod_eq_emod_of_nonneg g2.1]; omega) hS (fun k hk => (hI2.at_ k hk).2)
  have e := l0_step (mn := a0) (m := a2) hlen2 (by rw [Sorted_un hok3]; exact congrArg some (sortedK_iff.2 s1)) (by rw [Sorted_un hok2]; exact congrArg some (sortedK_iff.2 s2)) _ 0 (Nat.add_zero _)
  obtain ⟨k, hk⟩ := e.get
  refine ⟨k, ?_⟩
  rw [turnspitlaw08_KeyTurns.f, turnspitlaw08_awake.f, Option.bind_some, if_pos rfl, Made_un (okU_of hl hw), Option.bind_some, Sort_un hok, Option.bind_some]
  exact hk
end Go.Proofs.Ytahnkldkbbkflaa.QKeyTurns
namespace Go.Proofs.Ytahnkldkbbkflaa.Pure
theorem KeyTurns : QKeyTurns.turnspitlaw08_KeyTurns.Pure := QKeyTurns.turns
end Go.Proofs.Ytahnkldkbbkflaa.Pure
