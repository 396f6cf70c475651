/- slices.Insert of one key where there is room and where there is none, at keys. No condition but lengths. Written by hand. -/
import Derived.Test.YtahnkldkbbkflaaKLib4
import Derived.Lib.Overlaps
namespace Go.Proofs.Ytahnkldkbbkflaa.Srt
open Go.RowKit Go Go.Proofs Go.Proofs.Ytahnkldkbbkflaa Go.Proofs.Ytahnkldkbbkflaa.Ky Go.Proofs.YtahnkldkbbkflaaW.PrintWords Go.Proofs.YtahnkldkbbkflaaW.PrintLast Go.Proofs.YtahnkldkbbkflaaW.PrintMore
set_option linter.unusedVariables false
set_option linter.unusedSimpArgs false
variable {rs : List Value}
theorem size26 : (Try.prog.info? 26).map (·.size) = some 2 := by kernel_rfl
theorem flat_one : ∀ (l : List K), ∀ v ∈ flat l, v.oneCell' = true
  | [], v, h => by cases h
  | x :: t, v, h => by
    rcases List.mem_cons.1 h with rfl | h
    · rfl
    rcases List.mem_cons.1 h with rfl | h
    · rfl
    · exact flat_one t v h
theorem take_drop_flat (l : List K) (i : Nat) : flat l = flat (l.take i) ++ flat (l.drop i) := by rw [← flat_append, List.take_append_drop]
theorem add_at (g o j : Nat) : (⟨g, o, none⟩ : Addr).add j = ⟨g, o + j, none⟩ := by unfold Addr.add; split <;> simp_all
theorem cell_from {w : World} {g : Nat} {cur : Array Value} (hg : w.heap[g]? = some (.cells cur 26 (0, 0))) {A B C : List Value} (h : cur.toList = A ++ (B ++ C)) (j : Nat) (v : Value) (hj : B[j]? = some v) : w.cell? ((⟨g, A.length, none⟩ : Addr).add j) = some v := by
  rw [add_at, blk_cell hg, ← Array.getElem?_toList, h, List.getElem?_append_right (by omega), show A.length + j - A.length = j by omega, List.getElem?_append_left (List.getElem?_eq_some_iff.1 hj).1]
  exact hj
theorem room_list (F1 F2 R : List Value) (a b : Value) (hR : 2 ≤ R.length) :
    (((F1 ++ (F2 ++ R)).take (F1.length + 2) ++ F2 ++ (F1 ++ (F2 ++ R)).drop (F1.length + 2 + F2.length)).take F1.length ++ [a, b] ++ ((F1 ++ (F2 ++ R)).take (F1.length + 2) ++ F2 ++ (F1 ++ (F2 ++ R)).drop (F1.length + 2 + F2.length)).drop (F1.length + 2)) = F1 ++ ([a, b] ++ (F2 ++ R.drop 2)) := by
  have e1 : ((F1 ++ (F2 ++ R)).take (F1.length + 2)).length = F1.length + 2 := by simp; omega
  have e2 : ((F1 ++ (F2 ++ R)).take (F1.length + 2) ++ F2 ++ (F1 ++ (F2 ++ R)).drop (F1.length + 2 + F2.length)).take F1.length = F1 := by
    rw [List.append_assoc, List.take_append_of_le_length (by omega), List.take_take, Nat.min_eq_left (by omega), List.take_left]
  have e3 : ((F1 ++ (F2 ++ R)).take (F1.length + 2) ++ F2 ++ (F1 ++ (F2 ++ R)).drop (F1.length + 2 + F2.length)).drop (F1.length + 2) = F2 ++ R.drop 2 := by
    rw [List.append_assoc, List.drop_append, List.drop_eq_nil_of_le (by omega), e1, Nat.sub_self, List.drop_zero, List.nil_append]
    congr 1
    rw [show F1.length + 2 + F2.length = F1.length + (F2.length + 2) by omega, ← List.drop_drop, List.drop_left, ← List.drop_drop, List.drop_left]
  rw [e2, e3, List.append_assoc]
theorem overlaps43 (w : World) (V g o la ca lb cb : Nat) (cv cg : Array Value) (hV : w.heap[V]? = some (.cells cv 26 (0, 0))) (hg : w.heap[g]? = some (.cells cg 26 (0, 0))) (hne : V ≠ g) (hs : cg.size ≠ 0) :
    (callFunc 43 #[.slice (some ⟨V, 0, none⟩) la ca, .slice (some ⟨g, o, none⟩) lb cb]).run Try.prog w = .ok (.value (.bool false)) w := by
  have h := Lib.run_overlaps_apart (P := Try.prog) w 23 4 26 Try.underlying23 2 (fun _ => by kernel_rfl) ⟨V, 0, none⟩ ⟨g, o, none⟩ la ca lb cb hne 26 26 cv.size cg.size (by simp [World.shape?, hV]) (by simp [World.shape?, hg]) hs (blk_frozen hV 0) (blk_frozen hV _)
  rw [run_callFunc_extern Try.func43 (by kernel_rfl) (by kernel_rfl) (by kernel_rfl) (e := Extern.SlicesOverlaps.overlaps #[23, 23] #[4]) (by kernel_rfl), h]
  rfl
set_option maxHeartbeats 4000000 in
set_option maxRecDepth 100000 in
theorem insertRoom (g n cap i V : Nat) (l : List K) (k : K) (w : World) (hA : Arr rs w g l) (hn : n = l.length) (hl : l.length ≤ 1000000) (hi : i < n) (hc : n < cap) (hm : cap ≤ maxLen) (hs : l.length * 2 + rs.length = cap * 2) (hV : w.heap[V]? = some (.cells #[.int .u64 k.1, .int .i64 k.2] 26 (0, 0))) (hne : V ≠ g) :
    Calls Try.prog 35 #[.slice (some ⟨g, 0, none⟩) n cap, .int .i64 i, .slice (some ⟨V, 0, none⟩) 1 1] w fun e w' => e = .returned (.slice (some ⟨g, 0, none⟩) (n + 1) cap) ∧ Arr (rs.drop 2) w' g (l.take i ++ k :: l.drop i) ∧ w.grownBy w' (some g) := by
  obtain ⟨cur, hg, hcur⟩ := hA.out
  have hsz : cur.size = cap * 2 := by rw [← Array.length_toList, hcur, List.length_append, flat_length, hs]
  have hov := overlaps43 w V g ((i + 1) * 2) 1 1 (n - i) (cap - (i + 1)) _ _ hV hg hne (by omega)
  have HOV := hov
  have b1 : ((i : Int) == (n : Int)) = false := beq_eq_false_iff_ne.2 (by omega)
  have b2 : (i : Int) + 1 ≤ (n : Int) := by omega
  have b3 : (n : Int) + 1 ≤ (cap : Int) := by omega
  unfold maxLen at hm
  have HG := Aside0.mk hg
  have HCUR := Aside0.mk hcur
  have HN := Aside0.mk hn
  have HS := Aside0.mk hs
  have HSZ := Aside0.mk hsz
  have HV := Aside0.mk hV
  clear hA hn hs hV hg hcur hsz
  go_enter Try.func35, Try.ntmps35
  go_wp2
  have m1 : (((i + 1 : Nat) : Int)) = (i : Int) + 1 := by omega
  have m2 : ((i : Int) + 1).toNat = i + 1 := by omega
  have m3 : IntKind.i64.wrap ((i : Int) + 1) = (i : Int) + 1 := IntWalk.i64_in _ (by omega)
  have m4 : ¬ cap = i := by omega
  have m5 : ¬ cap = i + 1 := by omega
  have m6 : (i : Int) ≤ (n : Int) + 1 := by omega
  have m7 : (i : Int) + 1 ≤ (n : Int) + 1 := by omega
  have m8 : (0 : Int) ≤ (i : Int) + 1 := by omega
  go_still_tail 8, (by kernel_rfl)
  change wpList _ _ _ _ _ w.drew
  have hF1 : (flat (l.take i)).length = i * 2 := by rw [flat_length, List.length_take, ← HN.out]; omega
  have hF2 : (flat (l.drop i)).length = (n - i) * 2 := by rw [flat_length, List.length_drop, ← HN.out]
  have hcc : cur.toList = flat (l.take i) ++ (flat (l.drop i) ++ rs) := by rw [HCUR.out, take_drop_flat l i, List.append_assoc]
  have hg2 : w.drew.heap[g]? = some (.cells cur 26 (0, 0)) := HG.out
  have hmin : Nat.min (n + 1 - i) (n - i) = n - i := by rw [show Nat.min (n + 1 - i) (n - i) = min (n + 1 - i) (n - i) from rfl]; omega
  refine wpList_copy_sz rfl (.tmp 73) (.tmp 76) 23 23 rfl 26 2 Try.underlying23 size26 g ((i + 1) * 2) (n - i) (cap - (i + 1)) ⟨g, i * 2, none⟩ (n + 1 - i) (cap - i) ?hd ?hs cur 26 hg2 (flat (l.drop i)) ?hn ?hsrc ?hfit (flat_one _) ?_
  case hd => rfl
  case hs => rfl
  case hn => rw [hF2, hmin]
  case hsrc =>
    intro j v hj
    rw [← hF1]
    exact cell_from hg2 hcc j v hj
  case hfit => rw [hF2, HSZ.out]; omega
  have hV2 : w.drew.heap[V]? = some (.cells #[.int .u64 k.1, .int .i64 k.2] 26 (0, 0)) := HV.out
  have hg3 := setRow_heap w.drew g cur (List.take ((i + 1) * 2) cur.toList ++ flat (List.drop i l) ++ List.drop ((i + 1) * 2 + (flat (List.drop i l)).length) cur.toList).toArray 26 _ hg2
  have hV3 : (w.drew.setRow g (List.take ((i + 1) * 2) cur.toList ++ flat (List.drop i l) ++ List.drop ((i + 1) * 2 + (flat (List.drop i l)).length) cur.toList).toArray).heap[V]? = some (.cells #[.int .u64 k.1, .int .i64 k.2] 26 (0, 0)) := (setRow_other w.drew g V _ hne).trans hV2
  have hG3 : w.grownBy (w.drew.setRow g (List.take ((i + 1) * 2) cur.toList ++ flat (List.drop i l) ++ List.drop ((i + 1) * 2 + (flat (List.drop i l)).length) cur.toList).toArray) (some g) := ⟨rfl, rfl, rfl, by simp [World.setRow], fun q hq hne2 => setRow_other w.drew g q _ (fun e => hne2 (by rw [e]))⟩
  have hl3 : (List.take ((i + 1) * 2) cur.toList ++ flat (List.drop i l) ++ List.drop ((i + 1) * 2 + (flat (List.drop i l)).length) cur.toList).length = cap * 2 := by
    rw [List.length_append, List.length_append, List.length_take, List.length_drop, hF2, Array.length_toList, HSZ.out]; omega
  generalize hc3 : (List.take ((i + 1) * 2) cur.toList ++ flat (List.drop i l) ++ List.drop ((i + 1) * 2 + (flat (List.drop i l)).length) cur.toList) = cur3 at hg3 hV3 hG3 hl3 ⊢
  have HC3 := Aside0.mk hc3
  have HG3 := Aside0.mk hg3
  have HV3 := Aside0.mk hV3
  have HGG := Aside0.mk hG3
  have HF1 := Aside0.mk hF1
  have HF2 := Aside0.mk hF2
  have HL3 := Aside0.mk hl3
  have HCC := Aside0.mk hcc
  clear hc3 hg3 hV3 hG3 hF1 hF2 hcc hg2 hV2 hmin hov HOV HV HG
  generalize w.drew.setRow g cur3.toArray = w3 at HG3 HV3 HGG ⊢
  have hrun2 := run_copy_sz (P := Try.prog) w3 23 23 3 26 2 g (i * 2) (n + 1 - i) (cap - i) ⟨V, 0, none⟩ 1 1 cur3.toArray 26 [.int .u64 k.1, .int .i64 k.2] Try.underlying23 size26 HG3.out (by rw [show Nat.min 1 (n + 1 - i) = min 1 (n + 1 - i) from rfl, Nat.min_eq_left (by omega)]; rfl) (fun j v hj => by
    rw [add_at, Nat.zero_add, blk_cell HV3.out, ← Array.getElem?_toList]; exact hj) (by rw [List.size_toArray, HL3.out, List.length_cons, List.length_singleton]; omega) (fun v hv => by
    rcases List.mem_cons.1 hv with rfl | hv
    · rfl
    · rw [List.mem_singleton.1 hv]; rfl)
  have hmin1 : Nat.min 1 (n + 1 - i) = 1 := by rw [show Nat.min 1 (n + 1 - i) = min 1 (n + 1 - i) from rfl]; omega
  rw [hmin1] at hrun2
  have hg4 := setRow_heap w3 g cur3.toArray (List.take (i * 2) cur3.toArray.toList ++ [Value.int .u64 k.1, Value.int .i64 k.2] ++ List.drop (i * 2 + [Value.int .u64 k.1, Value.int .i64 k.2].length) cur3.toArray.toList).toArray 26 _ HG3.out
  have hG4 : w3.grownBy (w3.setRow g (List.take (i * 2) cur3.toArray.toList ++ [Value.int .u64 k.1, Value.int .i64 k.2] ++ List.drop (i * 2 + [Value.int .u64 k.1, Value.int .i64 k.2].length) cur3.toArray.toList).toArray) (some g) := ⟨rfl, rfl, rfl, by simp [World.setRow], fun q hq hne2 => setRow_other w3 g q _ (fun e => hne2 (by rw [e]))⟩
  have HG4 : Aside0 (Arr (rs.drop 2) (w3.setRow g (List.take (i * 2) cur3.toArray.toList ++ [Value.int .u64 k.1, Value.int .i64 k.2] ++ List.drop (i * 2 + [Value.int .u64 k.1, Value.int .i64 k.2].length) cur3.toArray.toList).toArray) g (l.take i ++ k :: l.drop i)) := ⟨⟨_, hg4, by
    have h := room_list (flat (l.take i)) (flat (l.drop i)) rs (.int .u64 k.1) (.int .i64 k.2) (by have := HS.out; have := HN.out; omega)
    rw [HF1.out] at h
    show List.take (i * 2) cur3 ++ [Value.int .u64 k.1, Value.int .i64 k.2] ++ List.drop (i * 2 + 2) cur3 = _
    rw [← HC3.out, HCC.out, show (i + 1) * 2 = i * 2 + 2 by omega, h, flat_append, flat]
    simp⟩⟩
  have HGG4 := Aside0.mk (gb_trans HGG.out hG4)
  generalize w3.setRow g (List.take (i * 2) cur3.toArray.toList ++ [Value.int .u64 k.1, Value.int .i64 k.2] ++ List.drop (i * 2 + [Value.int .u64 k.1, Value.int .i64 k.2].length) cur3.toArray.toList).toArray = w4 at HG4 HGG4 hrun2
  clear hg4 hG4 hmin1
  go_wp2
  go_ret
  exact ⟨rfl, HG4.out, HGG4.out⟩
end Go.Proofs.Ytahnkldkbbkflaa.Srt
