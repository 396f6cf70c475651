/- tree.Right, tree.First, tree.Height. Condition: the empty node lies in block 0 as it was laid. Written by hand. -/
import Derived.Test.YtfapmcpmfeigbaaDoorTm10
namespace Go.Proofs.YtfapmcpmfeigbaaDoor.Tm
open Go.RowKit Go Go.Proofs Go.Proofs.YtfapmcpmfeigbaaDoor Go.Proofs.YtfapmcpmfeigbaaDoor.Tr Go.Proofs.YtfapmcpmfeigbaaDoor.Tk Go.Proofs.YtfapmcpmfeigbaaDoorW.PrintWords Go.Proofs.YtfapmcpmfeigbaaDoorW.PrintLast Go.Proofs.YtfapmcpmfeigbaaDoorW.PrintMore
set_option linter.unusedVariables false
set_option linter.unusedSimpArgs false
variable {w : World} {t : St}
theorem heightA_none (h : ordA t = none) : heightA t = 0 := by unfold heightA; rw [h]
theorem heightA_some {a : T} (h : ordA t = some a) : heightA t = hgt a := by unfold heightA; rw [h]
theorem size_le {a : T} (h : ordA t = some a) : a.size ≤ 1000000 := by
 obtain ⟨h1, h2⟩ := ordA_iff.1 h
 rw [← size_ids]
 have := nodup_len h2.nd (fun z hz => h2.lay.lt z hz)
 omega
set_option maxHeartbeats 8000000 in
set_option maxRecDepth 100000 in
theorem Height_ (A0 : Option Addr) (c0 : Nat) (hr : kn.C w A0 t.ns.length t.ns) (hl : t.ns.length ≤ 1000000) (hT : Emp w) :
  Calls Tryd.prog 23 #[.agg #[.int .i64 t.rt, .slice A0 t.ns.length c0]] w fun e w' => e = .returned (.int .i64 (heightA t)) ∧ Below w.heap.size w w' := by
 have HR := Aside0.mk hr; have HL := Aside0.mk hl; have HT := Aside0.mk hT; clear hr hl hT
 go_enter Tryd.func23, Tryd.ntmps23
 go_upto_region 1 with (fail)
 have HB1 := Aside0.mk (below_alloc (Below.refl w.heap.size w) (.cells #[.int .i64 t.rt, .slice A0 t.ns.length c0] 24))
 have HX1 := Aside0.mk (show (w.alloc (.cells #[.int .i64 t.rt, .slice A0 t.ns.length c0] 24)).heap[w.heap.size]? = some (.cells #[.int .i64 t.rt, .slice A0 t.ns.length c0] 24 (0, 0)) from blk_new w _)
 generalize w.alloc (.cells #[.int .i64 t.rt, .slice A0 t.ns.length c0] 24) = W1 at HB1 HX1 ⊢
 have a0 := (show W1.cell? ⟨w.heap.size, 0, none⟩ = some (.int .i64 t.rt) from (blk_cell HX1.out 0).trans rfl)
 have a1 := (show W1.cell? ⟨w.heap.size, 1, none⟩ = some (.slice A0 t.ns.length c0) from (blk_cell HX1.out 1).trans rfl)
 have HT1 := Aside0.mk (HT.out.below HB1.out)
 cases hO : ordA t with
 | none =>
  have HO := Aside0.mk hO
  have HE := Aside0.mk (heightA_none hO)
  clear hO
  go_wp2_with (first
   | (go_at_call 32; refine (begin_ A0 c0 t _ (Kd.C_below HR.out HB1.out) HL.out).mono ?_; rintro e wq ⟨A, c, g, b, rfl, hW, hg, hb, hB, hc, hn⟩; have HW2 := Aside0.mk hW; have HB2 := Aside0.mk (below_step HB1.out hB); have HT2 := Aside0.mk (HT1.out.below hB); clear hW hg hb hB hc hn)
   | (go_at_call 54; refine (order_ HW2.out HT2.out).mono ?_; rintro e w9 ⟨hB, hno, hyes⟩; have HB3 := Aside0.mk (below_step HB2.out hB); obtain rfl := hno HO.out; clear hB hno hyes))
  go_ret
  exact ⟨by rw [HE.out]; rfl, HB3.out⟩
 | some a =>
  have HO := Aside0.mk hO
  have HSZ := Aside0.mk (size_le hO)
  have HWH := Aside0.mk (ordA_iff.1 hO).2
  have HE := Aside0.mk (heightA_some hO)
  clear hO
  go_upto_region 5 with (first
   | (go_at_call 32; refine (begin_ A0 c0 t _ (Kd.C_below HR.out HB1.out) HL.out).mono ?_; rintro e wq ⟨A, c, g, b, rfl, hW, hg, hb, hB, hc, hn⟩; have HW2 := Aside0.mk hW; have HB2 := Aside0.mk (below_step HB1.out hB); have HT2 := Aside0.mk (HT1.out.below hB); clear hW hg hb hB hc hn)
   | (go_at_call 54; refine (order_ HW2.out HT2.out).mono ?_; rintro e w9 ⟨hB, hno, hyes⟩; have HB3 := Aside0.mk (below_step HB2.out hB); obtain ⟨v, rfl, hv⟩ := hyes a HO.out; obtain ⟨A3, c3, hv3, hlc, _⟩ := Kd.R_reads hv; subst hv3; have HW3 := Aside0.mk (HW2.out.below hB); clear hB hno hyes hv hlc))
  have c1 := HW3.out.c1
  rw [HWH.out.rt] at c1
  go_wp2_with (go_at_call 61; refine (height_ a _ _ HW3.out HWH.out.lay HSZ.out).mono ?_; rintro e w8 ⟨rfl, m, rfl⟩; have HB4 := Aside0.mk (pw_below_drewN HB3.out m))
  go_ret
  exact ⟨by rw [HE.out]; rfl, HB4.out⟩
theorem rightA_none (mn : Int) (h : ordA t = none) : rightA t mn = false := by unfold rightA; rw [h]
theorem rightA_some (mn : Int) {a : T} (h : ordA t = some a) : rightA t mn = if a.red = true then false else if (blA a).2 = false then false else sortedK (cvf mn) (walkA t) := by
 rw [walkA_some h]; unfold rightA; rw [h]
theorem keys_ids {l : List Nat} (h : ∀ z ∈ l, z < 1000000) : ∀ k ∈ keysOf t l, inI k.2 := fun k hk => by
 obtain ⟨z, hz, rfl⟩ := List.mem_map.1 hk
 have := h z hz
 exact ⟨by show -9223372036854775808 ≤ (z : Int); omega, by show (z : Int) ≤ 9223372036854775807; omega⟩
set_option maxHeartbeats 8000000 in
set_option maxRecDepth 100000 in
theorem Right_ (A0 : Option Addr) (c0 : Nat) (mn : Int) (hr : kn.C w A0 t.ns.length t.ns) (hl : t.ns.length ≤ 1000000) (hT : Emp w) :
  Calls Tryd.prog 18 #[.agg #[.int .i64 t.rt, .slice A0 t.ns.length c0], .int .u64 mn] w fun e w' => e = .returned (.bool (rightA t mn)) ∧ Below w.heap.size w w' := by
 have HR := Aside0.mk hr; have HL := Aside0.mk hl; have HT := Aside0.mk hT; clear hr hl hT
 go_enter Tryd.func18, Tryd.ntmps18
 go_upto_region 1 with (fail)
 have HB1 := Aside0.mk (below_alloc (Below.refl w.heap.size w) (.cells #[.int .i64 t.rt, .slice A0 t.ns.length c0] 24))
 have HX1 := Aside0.mk (show (w.alloc (.cells #[.int .i64 t.rt, .slice A0 t.ns.length c0] 24)).heap[w.heap.size]? = some (.cells #[.int .i64 t.rt, .slice A0 t.ns.length c0] 24 (0, 0)) from blk_new w _)
 generalize w.alloc (.cells #[.int .i64 t.rt, .slice A0 t.ns.length c0] 24) = W1 at HB1 HX1 ⊢
 have a0 := (show W1.cell? ⟨w.heap.size, 0, none⟩ = some (.int .i64 t.rt) from (blk_cell HX1.out 0).trans rfl)
 have a1 := (show W1.cell? ⟨w.heap.size, 1, none⟩ = some (.slice A0 t.ns.length c0) from (blk_cell HX1.out 1).trans rfl)
 have HT1 := Aside0.mk (HT.out.below HB1.out)
 cases hO : ordA t with
 | none =>
  have HO := Aside0.mk hO
  have HE := Aside0.mk (rightA_none mn hO)
  clear hO
  go_wp2_with (first
   | (go_at_call 32; refine (begin_ A0 c0 t _ (Kd.C_below HR.out HB1.out) HL.out).mono ?_; rintro e wq ⟨A, c, g, b, rfl, hW, hg, hb, hB, hc, hn⟩; have HW2 := Aside0.mk hW; have HB2 := Aside0.mk (below_step HB1.out hB); have HT2 := Aside0.mk (HT1.out.below hB); clear hW hg hb hB hc hn)
   | (go_at_call 54; refine (order_ HW2.out HT2.out).mono ?_; rintro e w9 ⟨hB, hno, hyes⟩; have HB3 := Aside0.mk (below_step HB2.out hB); obtain rfl := hno HO.out; clear hB hno hyes))
  go_quiet (fail)
  go_wp2
  go_ret
  exact ⟨by rw [HE.out]; rfl, pw_below_drewN HB3.out _⟩
 | some a =>
  have HO := Aside0.mk hO
  have HSZ := Aside0.mk (size_le hO)
  have HWH := Aside0.mk (ordA_iff.1 hO).2
  have HKI := Aside0.mk (show ∀ k ∈ walkA t, inI k.2 by rw [walkA_some hO]; exact keys_ids (fun z hz => by have := HWH.out.lay.lt z hz; have := HL.out; omega))
  have HKL := Aside0.mk (show (walkA t).length ≤ 1000000 by rw [walkA_some hO]; unfold keysOf; rw [List.length_map]; have := nodup_len HWH.out.nd (fun z hz => HWH.out.lay.lt z hz); have := HL.out; omega)
  have HE := Aside0.mk (rightA_some mn hO)
  clear hO
  go_upto_region 3 with (first
   | (go_at_call 32; refine (begin_ A0 c0 t _ (Kd.C_below HR.out HB1.out) HL.out).mono ?_; rintro e wq ⟨A, c, g, b, rfl, hW, hg, hb, hB, hc, hn⟩; have HW2 := Aside0.mk hW; have HX2 := Aside0.mk (blk_below HX1.out hB); have HB2 := Aside0.mk (below_step HB1.out hB); have HT2 := Aside0.mk (HT1.out.below hB); clear hW hg hb hB hc hn)
   | (go_at_call 54; refine (order_ HW2.out HT2.out).mono ?_; rintro e w9 ⟨hB, hno, hyes⟩; have HB3 := Aside0.mk (below_step HB2.out hB); obtain ⟨v, rfl, hv⟩ := hyes a HO.out; obtain ⟨A3, c3, hv3, hlc, _⟩ := Kd.R_reads hv; subst hv3; have HW3 := Aside0.mk (HW2.out.below hB); have HX3 := Aside0.mk (blk_below HX2.out hB); have HT3 := Aside0.mk (HT2.out.below hB); clear hB hno hyes hv hlc))
  have c1 := HW3.out.c1
  rw [HWH.out.rt] at c1
  have HRL := Aside0.mk (show a.rt < (t.ns.length : Int) from rt_ltI HWH.out.lay.loose)
  have HRE := Aside0.mk (red_lay HWH.out.lay)
  cases hr : a.red with
  | true =>
   rw [hr] at HRE HE
   have HE2 := Aside0.mk (HE.out.trans (if_pos rfl))
   clear hr HE
   go_quiet ((go_at_call 46; exact Calls.quiet_of_same (red_v (by first | exact HW3.out | exact HW3.out.drewN _) a.rt HRL.out true HRE.out)))
   go_wp2
   go_ret
   exact ⟨by rw [HE2.out]; rfl, pw_below_drewN HB3.out _⟩
  | false =>
   rw [hr] at HRE HE
   have HE2 := Aside0.mk (HE.out.trans (if_neg (by simp)))
   clear hr HE
   go_quiet ((go_at_call 46; exact Calls.quiet_of_same (red_v (by first | exact HW3.out | exact HW3.out.drewN _) a.rt HRL.out false HRE.out)))
   have HB4 := Aside0.mk (pw_below_drewN HB3.out nq)
   have HW4 := Aside0.mk (HW3.out.drewN nq)
   have HX4 := Aside0.mk (blk_drewN HX3.out nq)
   have HT4 := Aside0.mk (HT3.out.drewN nq)
   clear c1
   generalize w9.drewN nq = w4 at HB4 HW4 HX4 HT4 ⊢
   have c1 := HW4.out.c1
   rw [HWH.out.rt] at c1
   go_upto_region 6 with (go_at_call 55; refine (blacks_ a _ _ HW4.out HWH.out.lay HSZ.out).mono ?_; rintro e w8 ⟨rfl, m, rfl⟩; have HB5 := Aside0.mk (pw_below_drewN HB4.out m); have HX5 := Aside0.mk (blk_drewN HX4.out m); have HT5 := Aside0.mk (HT4.out.drewN m))
   generalize w4.drewN m = w5 at HB5 HX5 HT5 ⊢
   cases hb : (blA a).2 with
   | false =>
    rw [hb] at HE2
    have HE3 := Aside0.mk (HE2.out.trans (if_pos rfl))
    clear hb HE2
    go_wp2
    go_ret
    exact ⟨by rw [HE3.out]; rfl, HB5.out⟩
   | true =>
    rw [hb] at HE2
    have HE3 := Aside0.mk (HE2.out.trans (if_neg (by simp)))
    clear hb HE2
    have b0 := (show w5.cell? ⟨w.heap.size, 0, none⟩ = some (.int .i64 t.rt) from (blk_cell HX5.out 0).trans rfl)
    have b1 := (show w5.cell? ⟨w.heap.size, 1, none⟩ = some (.slice A0 t.ns.length c0) from (blk_cell HX5.out 1).trans rfl)
    go_wp2_with (first
     | (go_at_call 21; refine (Walk_ A0 c0 (Kd.C_below HR.out HB5.out) HL.out HT5.out).mono ?_; rintro e w6 ⟨v, rfl, hR6, hB6⟩; obtain ⟨A6, c6, hv6, hlc6, hC6⟩ := Kd.R_reads hR6; subst hv6; have HC6 := Aside0.mk hC6; have HB6 := Aside0.mk (below_step HB5.out hB6); clear hR6 hB6 hC6 hlc6)
     | (go_at_call 56; refine (keySorted (cmp26 mn) A6 c6 (walkA t) _ HC6.out HKL.out HKI.out).mono ?_; rintro e w7 ⟨rfl, hB7⟩; have HB7 := Aside0.mk (below_step HB6.out hB7); clear hB7))
    go_ret
    exact ⟨by rw [HE3.out]; rfl, HB7.out⟩
end Go.Proofs.YtfapmcpmfeigbaaDoor.Tm
