/- A number is put once; putting it again, dropping what is not there are told apart; no condition. -/
import Derived.Test.YtahnkldkbbkflaaQKeyOncex3
import Derived.Test.YtahnkldkbbkflaaKPure2
namespace Go.Proofs.Ytahnkldkbbkflaa.QKeyOnce
open Go.RowKit Go.Proofs Go.Proofs.Ytahnkldkbbkflaa Go.Proofs.Ytahnkldkbbkflaa.Ky Go.Proofs.Ytahnkldkbbkflaa.Srt Go.Proofs.Ytahnkldkbbkflaa.KC Go.Proofs.Ytahnkldkbbkflaa.KP Go.Proofs.YtahnkldkbbkflaaW.PrintWords Go.Proofs.YtahnkldkbbkflaaW.PrintLast
set_option linter.unusedVariables false
section
def un (k : K) : S26 := ⟨k.1, k.2⟩
theorem pr_un (l : List K) : (l.map un).map (fun s => (s.f0, s.f1)) = l := by
  rw [List.map_map]
  exact List.map_id l
theorem rd_un (l : List K) (i : Nat) (h : i < l.length) : rd_T26 (l.map un) (i : Int) = un (gt l i) := by
  unfold rd_T26
  rw [Int.toNat_natCast, List.getD_eq_getElem?_getD, List.getElem?_map, List.getElem?_eq_getElem h, gt_of l i h]
  rfl
theorem Sort_un {mn : Int} {l : List K} (h : okR l = true) : key_Sort.f mn (l.map un) = some ((sortK mn l).map un) := by
  unfold key_Sort.f
  rw [pr_un, if_pos h]; rfl
theorem Sorted_un {mn : Int} {l : List K} (h : okR l = true) : key_Sorted.f mn (l.map un) = some (sortedK (cvf mn) l) := by
  unfold key_Sorted.f
  rw [pr_un, if_pos h]
theorem First_un {mn : Int} {l : List K} (h : okR l = true) : key_First.f mn (l.map un) = some ((firstK (cvf mn) l).1, (firstK (cvf mn) l).2, decide (0 < l.length)) := by
  unfold key_First.f
  rw [pr_un, if_pos h, List.length_map]
theorem Put_un {mn : Int} {l : List K} (k : K) (h : okR l = true) : key_Put.f mn (l.map un) k.1 k.2 = some ((putK (cvf mn) l k).1.map un, (putK (cvf mn) l k).2) := by
  unfold key_Put.f
  rw [pr_un, if_pos h]; rfl
theorem Drop_un {mn : Int} {l : List K} (id : Int) (h : okR l = true) : key_Drop.f mn (l.map un) id = some ((dropK (cvf mn) l id).1.map un, (dropK (cvf mn) l id).2) := by
  unfold key_Drop.f
  rw [pr_un, if_pos h]; rfl
theorem okU_of {l : List Int} (h : l.length * 2 ≤ 140737488351232) (k : ∀ x ∈ l, (Lit.int .u16 x).wf = true) : okU l = true := by
  unfold okU
  rw [Bool.and_eq_true]
  refine ⟨decide_eq_true (by omega), List.all_eq_true.2 fun x hx => decide_eq_true ?_⟩
  have := k x hx
  simp [Lit.wf, IntKind.min, IntKind.max, IntKind.signed, IntKind.bits] at this; omega
theorem Made_un {mn : Int} {l : List Int} (h : okU l = true) : turnspitlaw08_Made.f mn l = some ((madeK mn l).map un) := by
  unfold turnspitlaw08_Made.f
  rw [if_pos h]; rfl

theorem wfu {n : Int} (h : (Lit.int .u64 n).wf = true) : 0 ≤ n ∧ n ≤ 18446744073709551615 := by
  simp [Lit.wf, IntKind.min, IntKind.max, IntKind.signed, IntKind.bits] at h; omega
theorem wfh {n : Int} (h : (Lit.int .u16 n).wf = true) : 0 ≤ n ∧ n ≤ 65535 := by
  simp [Lit.wf, IntKind.min, IntKind.max, IntKind.signed, IntKind.bits] at h; omega
theorem wfi {n : Int} (h : (Lit.int .i64 n).wf = true) : -9223372036854775808 ≤ n ∧ n ≤ 9223372036854775807 := by
  simp [Lit.wf, IntKind.min, IntKind.max, IntKind.signed, IntKind.bits] at h; omega
end

theorem l0_step {l : List K} (hl : l.length ≤ 40) :
    ∀ (d i : Nat), d + i = l.length → Evt (fun k => turnspitlaw08_KeyOnce.l0 k true (l.map un) 0 1 (l.map un) 0 8 (i : Int)) true
  | 0, i, hi => by
    refine Evt.step (Evt.now true) fun k => ?_
    rw [turnspitlaw08_KeyOnce.l0, List.length_map, if_neg (by omega), if_pos rfl, if_pos rfl, if_pos rfl, if_pos rfl]
    rfl
  | d + 1, i, hi => by
    have hlt : i < l.length := by omega
    refine Evt.step (l0_step hl d (i + 1) (by omega)) fun k => ?_
    rw [turnspitlaw08_KeyOnce.l0, List.length_map, if_pos (by omega), if_pos (by omega), if_pos (by omega), if_neg (by simp)]
    rw [show wrap64 ((i : Int) + 1) = ((i + 1 : Nat) : Int) from by unfold wrap64; omega]
theorem once : turnspitlaw08_KeyOnce.Pure := by
  intro a0 l1 a2 w0 _ hl hw w2
  have g0 := wfu w0
  have g2 := wfh w2
  obtain ⟨hI, hlen⟩ := made_inv (l := l1) g0 (fun x hx => wfh (hw x hx))
  have hok := hI.ok hlen
  have hS := sortK_SS (mn := a0) hI.nd
  have hP := sortK_perm a0 (madeK a0 l1)
  have hI2 := hI.perm hP.symm
  have hlen2 : (sortK a0 (madeK a0 l1)).length ≤ 40 := by rw [hP.length_eq]; exact hlen
  have hok2 := hI2.ok hlen2
  generalize hss : sortK a0 (madeK a0 l1) = s at *
  have hid : wrap64 (64 + wrap64 a2) = 64 + a2 := by unfold wrap64; omega
  have hu : ∀ x : Int, 0 ≤ IntKind.u64.wrap x ∧ IntKind.u64.wrap x ≤ 18446744073709551615 := fun x => by rw [w64]; omega
  generalize hv : IntKind.u64.wrap (a0 + IntKind.u64.wrap a2) = v
  have gv : 0 ≤ v ∧ v ≤ 18446744073709551615 := by rw [← hv]; exact hu _
  have hno : ∀ x ∈ s, x.2 ≠ 64 + a2 := fun x hx => by have := (hI2.at_ x hx).1; omega
  have hp1 := putK_new (k := (v, 64 + a2)) hS hno
  have hS2 := ins_SS (k := (v, 64 + a2)) hS hno
  have hperm := ins_perm a0 (v, 64 + a2) s
  have hok3 : okR (ins a0 s (v, 64 + a2)) = true := by
    refine okR_of (by rw [hperm.length_eq, List.length_cons]; omega) fun x hx => ?_
    rcases List.mem_cons.1 (hperm.mem_iff.1 hx) with rfl | hx
    · exact ⟨gv, by simp only; omega⟩
    · exact ⟨(hI2.at_ x hx).2.1, by have := (hI2.at_ x hx).1; omega⟩
  have hmem : ∃ x ∈ ins a0 s (v, 64 + a2), x.2 = 64 + a2 := ⟨(v, 64 + a2), hperm.mem_iff.2 List.mem_cons_self, rfl⟩
  have hp2 := putK_old (k := (a0, 64 + a2)) hS2 hmem
  have hd1 := dropK_yes hS2 hmem
  have hde := del_ins (mn := a0) (k := (v, 64 + a2)) (l := s) hno
  rw [show del (ins a0 s (v, 64 + a2)) (64 + a2) = s from hde] at hd1
  have hd2 := dropK_no hS hno
  have e := l0_step hlen2 _ 0 (Nat.add_zero _)
  have e2 : Evt (fun k => turnspitlaw08_KeyOnce.j0 k true (s.map un) 0 1 (s.map un) 0 8 (((ins a0 s (v, 64 + a2)).map un).length != wrap64 (((s.map un).length : Int) + 1))) true := by
    refine Evt.step e fun k => ?_
    rw [turnspitlaw08_KeyOnce.j0, if_neg ?_]
    · rfl
    · rw [List.length_map, List.length_map, hperm.length_eq, List.length_cons, show wrap64 ((s.length : Int) + 1) = ((s.length + 1 : Nat) : Int) from by unfold wrap64; omega]
      simp
  obtain ⟨k, hk⟩ := e2.get
  refine ⟨k, ?_⟩
  rw [turnspitlaw08_KeyOnce.f, turnspitlaw08_awake.f, Option.bind_some, if_pos rfl, Made_un (okU_of hl hw), Option.bind_some, Sort_un hok, Option.bind_some, hss, hid, hv]
  rw [show key_Put.f a0 (s.map un) v (64 + a2) = _ from Put_un (v, 64 + a2) hok2, hp1, Option.bind_some]
  simp only
  rw [show key_Put.f a0 ((ins a0 s (v, 64 + a2)).map un) a0 (64 + a2) = _ from Put_un (a0, 64 + a2) hok3, hp2, Option.bind_some, Drop_un _ hok3, hd1, Option.bind_some, Drop_un _ hok2, hd2, Option.bind_some, if_pos rfl]
  exact hk
end Go.Proofs.Ytahnkldkbbkflaa.QKeyOnce
namespace Go.Proofs.Ytahnkldkbbkflaa.Pure
theorem KeyOnce : QKeyOnce.turnspitlaw08_KeyOnce.Pure := QKeyOnce.once
end Go.Proofs.Ytahnkldkbbkflaa.Pure
