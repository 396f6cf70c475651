/- Parts of the proof, joined: TaA, TaB. -/
import Derived.Test.YtfapmcpmfeigbaaDoorUD19
import Derived.Test.YtfapmcpmfeigbaaDoorUD17
import Derived.Test.YtfapmcpmfeigbaaDoorUD9
import Derived.Test.YtfapmcpmfeigbaaDoorUD15
section
namespace Go.Proofs.YtfapmcpmfeigbaaDoor.Tm
open Go.RowKit Go Go.Proofs Go.Proofs.YtfapmcpmfeigbaaDoor Go.Proofs.YtfapmcpmfeigbaaDoor.Tr Go.Proofs.YtfapmcpmfeigbaaDoor.Tk Go.Proofs.YtfapmcpmfeigbaaDoorW.PrintWords Go.Proofs.YtfapmcpmfeigbaaDoorW.PrintLast Go.Proofs.YtfapmcpmfeigbaaDoorW.PrintMore
set_option linter.unusedVariables false
def ga (o : Option (St × Int)) : St := (o.getD (⟨[], 0⟩, 0)).1
def aA : St := ga (insA (newA 4).1 0 (9, 1))
def aB : St := ga (insA aA 0 (9, 2))
def aC : St := ga (insA aB 0 (9, 3))
def aD : St := ga (delF aC 0 2)
theorem a_a : insA (newA 4).1 0 (9, 1) = some (aA, 0) := by kernel_rfl
theorem a_b : insA aA 0 (9, 2) = some (aB, 0) := by kernel_rfl
theorem a_c : insA aB 0 (9, 3) = some (aC, 0) := by kernel_rfl
theorem a_d : delF aC 0 2 = some (aD, 0) := by kernel_rfl
theorem a_e : delF aD 0 2 = some (⟨[], 0⟩, 8) := by kernel_rfl
theorem a_f : insA aC 0 (1, 2) = some (⟨[], 0⟩, 1) := by kernel_rfl
theorem a_g : (jF aC).getD 0 (0, 0) = (9, 1) ∧ (jF aC).length = 3 := ⟨by kernel_rfl, by kernel_rfl⟩
theorem a_h : (jF aD).length = 2 := by kernel_rfl
theorem a_i : zaM aC = 2 := by kernel_rfl
theorem a_j : qO aD 0 = true := by kernel_rfl
theorem a_n : newA 4 = (⟨[emp, emp, emp, emp], -1⟩, 0) := by kernel_rfl
theorem a_cr : aC.rt = 2 ∧ aC.ns.length = 4 ∧ (gn aC 1).red = true ∧ (gn aC 3).red = true := ⟨by kernel_rfl, by kernel_rfl, by kernel_rfl, by kernel_rfl⟩
theorem a_dr : aD.rt = 3 ∧ aD.ns.length = 4 := ⟨by kernel_rfl, by kernel_rfl⟩
theorem a_al : aA.ns.length = 4 ∧ aB.ns.length = 4 := ⟨by kernel_rfl, by kernel_rfl⟩
theorem eqK (d : Nat) (w : World) (x0 y0 : Int) (x1 y1 : Int) :
  (Op.equalIn (d + 2) 27 (.agg #[.int .u64 x0, .int .i64 x1]) (.agg #[.int .u64 y0, .int .i64 y1])).run Tryd.prog w = .ok (x0 == y0 && (x1 == y1)) w := by
 refine eqA_of Tryd.underlying27 (by kernel_rfl) ?_
 refine jL (by rfl) (by go_simp; rfl) (by go_simp; rfl) (by go_simp) ?_
 exact eqf_last (by rfl) (by go_simp; rfl) (by go_simp; rfl) (by go_simp)
end Go.Proofs.YtfapmcpmfeigbaaDoor.Tm
end
section
namespace Go.Proofs.YtfapmcpmfeigbaaDoor.Tm
open Go.RowKit Go Go.Proofs Go.Proofs.YtfapmcpmfeigbaaDoor Go.Proofs.YtfapmcpmfeigbaaDoor.Tr Go.Proofs.YtfapmcpmfeigbaaDoor.Tk Go.Proofs.YtfapmcpmfeigbaaDoorW.PrintWords Go.Proofs.YtfapmcpmfeigbaaDoorW.PrintLast Go.Proofs.YtfapmcpmfeigbaaDoorW.PrintMore
set_option linter.unusedVariables false
set_option linter.unusedSimpArgs false
attribute [local go_sem high] eqK
structure CPost (t' : St) (r1 : Int) (n1 : Nat) (e1 : Int) (w : World) (e : Ending) (w' : World) : Prop where mk ::
 out : ∃ A c, e = .returned (.tuple #[.agg #[.int .i64 r1, .slice A n1 c], .int .i64 e1]) ∧ kn.C w' A n1 t'.ns ∧ Below w.heap.size w w'
theorem cpost {t' : St} {e1 : Int} {w w' : World} {e : Ending} {r1 : Int} {n1 : Nat} (h1 : t'.rt = r1) (hn1 : t'.ns.length = n1) (h : kE w (t', e1) e w') : CPost t' r1 n1 e1 w e w' := by
 subst h1; subst hn1
 obtain ⟨v, rfl, hR, hB⟩ := h.out
 obtain ⟨A, c, rfl, _, hC⟩ := Kd.qG hR
 exact ⟨A, c, rfl, hC, hB⟩
theorem zbf {t t' : St} {mn v i : Int} {e1 : Int} (hf : insA t mn (v, i) = some (t', e1)) {r0 : Int} {n0 : Nat} (h0 : t.rt = r0) (hn0 : t.ns.length = n0) {r1 : Int} {n1 : Nat} (h1 : t'.rt = r1) (hn1 : t'.ns.length = n1) (A : Option Addr) (c : Nat) (w : World) (hC : kn.C w A n0 t.ns) (hl : n0 ≤ 1000000) (hT : Emp w) :
  Calls Tryd.prog 11 #[.agg #[.int .i64 r0, .slice A n0 c], .int .u64 mn, .agg #[.int .u64 v, .int .i64 i]] w fun e w' => CPost t' r1 n1 e1 w e w' := by
 subst h0; subst hn0
 exact (Insert_ A c mn (v, i) (t', e1) hC hl hT hf).mono fun e w' h => cpost h1 hn1 h
theorem callDel {t t' : St} {mn i : Int} {e1 : Int} (hf : delF t mn i = some (t', e1)) {r0 : Int} {n0 : Nat} (h0 : t.rt = r0) (hn0 : t.ns.length = n0) {r1 : Int} {n1 : Nat} (h1 : t'.rt = r1) (hn1 : t'.ns.length = n1) (A : Option Addr) (c : Nat) (w : World) (hC : kn.C w A n0 t.ns) (hl : n0 ≤ 1000000) (hT : Emp w) :
  Calls Tryd.prog 13 #[.agg #[.int .i64 r0, .slice A n0 c], .int .u64 mn, .int .i64 i] w fun e w' => CPost t' r1 n1 e1 w e w' := by
 subst h0; subst hn0
 exact (Delete_ A c mn i (t', e1) hC hl hT hf).mono fun e w' h => cpost h1 hn1 h
theorem callNew (w : World) (hT : Emp w) : Calls Tryd.prog 25 #[.int .i64 4] w fun e w' => CPost (newA 4).1 (-1) 4 0 w e w' := (New_ 4 w hT).mono fun e w' h => cpost (t' := (newA 4).1) (e1 := 0) (by rw [a_n]) (by rw [a_n]; rfl) (by rw [a_n] at h ⊢; exact h)
theorem callFirst (A : Option Addr) (c : Nat) (w : World) (hC : kn.C w A 4 aC.ns) (hT : Emp w) : Calls Tryd.prog 16 #[.agg #[.int .i64 2, .slice A 4 c]] w fun e w' => e = .returned (.tuple #[.agg #[.int .u64 9, .int .i64 1], .bool true]) ∧ Below w.heap.size w w' := by
 have h := First_ (t := aC) (w := w) A c (by rw [a_cr.2.1]; exact hC) (by rw [a_cr.2.1]; omega) hT
 rw [a_g.1, a_g.2, a_cr.1, a_cr.2.1] at h
 exact h
theorem callWalk (A : Option Addr) (c : Nat) (w : World) (hC : kn.C w A 4 aD.ns) (hT : Emp w) : Calls Tryd.prog 21 #[.agg #[.int .i64 3, .slice A 4 c]] w fun e w' => ∃ A' c', e = .returned (.slice A' 2 c') ∧ Below w.heap.size w w' := by
 have h := Walk_ (t := aD) (w := w) A c (by rw [a_dr.2]; exact hC) (by rw [a_dr.2]; omega) hT
 rw [a_dr.1, a_dr.2] at h
 refine h.mono ?_
 rintro e w' ⟨v, rfl, hR, hB⟩
 obtain ⟨A', c', rfl, _, _⟩ := Kd.qG hR
 rw [a_h]
 exact ⟨A', c', rfl, hB⟩
theorem callHeight (A : Option Addr) (c : Nat) (w : World) (hC : kn.C w A 4 aC.ns) (hT : Emp w) : Calls Tryd.prog 23 #[.agg #[.int .i64 2, .slice A 4 c]] w fun e w' => e = .returned (.int .i64 2) ∧ Below w.heap.size w w' := by
 have h := Height_ (t := aC) (w := w) A c (by rw [a_cr.2.1]; exact hC) (by rw [a_cr.2.1]; omega) hT
 rw [a_i, a_cr.1, a_cr.2.1] at h
 exact h
theorem callRight (A : Option Addr) (c : Nat) (w : World) (hC : kn.C w A 4 aD.ns) (hT : Emp w) : Calls Tryd.prog 18 #[.agg #[.int .i64 3, .slice A 4 c], .int .u64 0] w fun e w' => e = .returned (.bool true) ∧ Below w.heap.size w w' := by
 have h := Right_ (t := aD) (w := w) A c 0 (by rw [a_dr.2]; exact hC) (by rw [a_dr.2]; omega) hT
 rw [a_j, a_dr.1, a_dr.2] at h
 exact h
theorem a_rts : (newA 4).1.rt = -1 ∧ (newA 4).1.ns.length = 4 ∧ aA.rt = 1 ∧ aB.rt = 1 := ⟨by kernel_rfl, by kernel_rfl, by kernel_rfl, by kernel_rfl⟩
set_option maxHeartbeats 32000000 in
set_option maxRecDepth 100000 in
theorem awake_ (w : World) (hT : Emp w) : Calls Tryd.prog 10 #[] w fun e w' => e = .returned (.bool true) ∧ Below w.heap.size w w' := by
 have HT := zA.mk hT
 have B0 := zA.mk (Below.refl w.heap.size w)
 clear hT
 go_enter Tryd.func10, Tryd.ntmps10
 go_upto_region 2 with (go_at_call 25; (refine (callNew _ HT.out).mono ?_); rintro e wq ⟨A1, c1, rfl, hC, hB⟩; have C1 := zA.mk hC; have B0 := zA.mk (zT B0.out hB); have HT := zA.mk (HT.out.below hB); clear hC hB)
 have X1 := zA.mk (yM wq (.cells #[.int .i64 (-1), .slice A1 4 c1] 24))
 have hb := zH (Below.refl wq.heap.size wq) (.cells #[.int .i64 (-1), .slice A1 4 c1] 24)
 have C1 := zA.mk (Kd.zY C1.out hb)
 have B0 := zA.mk (zT B0.out hb)
 have HT := zA.mk (HT.out.below hb)
 clear hb
 generalize wq.alloc (.cells #[.int .i64 (-1), .slice A1 4 c1] 24) = W1 at X1 C1 B0 HT ⊢
 generalize wq.heap.size = b1 at X1 ⊢
 have s0 := (show _ = some (Value.int .i64 (-1)) from (zF X1.out 0).trans rfl)
 have s1 := (show _ = some (Value.slice A1 4 c1) from (zF X1.out 1).trans rfl)
 go_upto_region 3 with (go_at_call 11; (refine (zbf a_a a_rts.1 a_rts.2.1 a_rts.2.2.1 a_al.1 A1 c1 _ C1.out (by omega) HT.out).mono ?_); rintro e wq ⟨A2, c2, rfl, hC, hB⟩; have C2 := zA.mk hC; have B0 := zA.mk (zT B0.out hB); have HT := zA.mk (HT.out.below hB); have X1 := zA.mk (zK X1.out hB); have C1 := zA.mk (Kd.zY C1.out hB); clear hC hB)
 clear s0 s1
 have X2 := zA.mk (yM wq (.cells #[.int .i64 1, .slice A2 4 c2] 24))
 have hb := zH (Below.refl wq.heap.size wq) (.cells #[.int .i64 1, .slice A2 4 c2] 24)
 have X1 := zA.mk (zK X1.out hb)
 have C1 := zA.mk (Kd.zY C1.out hb)
 have C2 := zA.mk (Kd.zY C2.out hb)
 have B0 := zA.mk (zT B0.out hb)
 have HT := zA.mk (HT.out.below hb)
 clear hb
 generalize wq.alloc (.cells #[.int .i64 1, .slice A2 4 c2] 24) = W2 at X1 C1 X2 C2 B0 HT ⊢
 generalize wq.heap.size = b2 at X2 ⊢
 have s0 := (show _ = some (Value.int .i64 1) from (zF X2.out 0).trans rfl)
 have s1 := (show _ = some (Value.slice A2 4 c2) from (zF X2.out 1).trans rfl)
 go_upto_region 4 with (go_at_call 11; (refine (zbf a_b a_rts.2.2.1 a_al.1 a_rts.2.2.2 a_al.2 A2 c2 _ C2.out (by omega) HT.out).mono ?_); rintro e wq ⟨A3, c3, rfl, hC, hB⟩; have C3 := zA.mk hC; have B0 := zA.mk (zT B0.out hB); have HT := zA.mk (HT.out.below hB); have X1 := zA.mk (zK X1.out hB); have C1 := zA.mk (Kd.zY C1.out hB); have X2 := zA.mk (zK X2.out hB); have C2 := zA.mk (Kd.zY C2.out hB); clear hC hB)
 clear s0 s1
 have X3 := zA.mk (yM wq (.cells #[.int .i64 1, .slice A3 4 c3] 24))
 have hb := zH (Below.refl wq.heap.size wq) (.cells #[.int .i64 1, .slice A3 4 c3] 24)
 have X1 := zA.mk (zK X1.out hb)
 have C1 := zA.mk (Kd.zY C1.out hb)
 have X2 := zA.mk (zK X2.out hb)
 have C2 := zA.mk (Kd.zY C2.out hb)
 have C3 := zA.mk (Kd.zY C3.out hb)
 have B0 := zA.mk (zT B0.out hb)
 have HT := zA.mk (HT.out.below hb)
 clear hb
 generalize wq.alloc (.cells #[.int .i64 1, .slice A3 4 c3] 24) = W3 at X1 C1 X2 C2 X3 C3 B0 HT ⊢
 generalize wq.heap.size = b3 at X3 ⊢
 have s0 := (show _ = some (Value.int .i64 1) from (zF X3.out 0).trans rfl)
 have s1 := (show _ = some (Value.slice A3 4 c3) from (zF X3.out 1).trans rfl)
 go_upto_region 5 with (go_at_call 11; (refine (zbf a_c a_rts.2.2.2 a_al.2 a_cr.1 a_cr.2.1 A3 c3 _ C3.out (by omega) HT.out).mono ?_); rintro e wq ⟨A4, c4, rfl, hC, hB⟩; have C4 := zA.mk hC; have B0 := zA.mk (zT B0.out hB); have HT := zA.mk (HT.out.below hB); have X1 := zA.mk (zK X1.out hB); have C1 := zA.mk (Kd.zY C1.out hB); have X2 := zA.mk (zK X2.out hB); have C2 := zA.mk (Kd.zY C2.out hB); have X3 := zA.mk (zK X3.out hB); have C3 := zA.mk (Kd.zY C3.out hB); clear hC hB)
 clear s0 s1
 have X4 := zA.mk (yM wq (.cells #[.int .i64 2, .slice A4 4 c4] 24))
 have hb := zH (Below.refl wq.heap.size wq) (.cells #[.int .i64 2, .slice A4 4 c4] 24)
 have X1 := zA.mk (zK X1.out hb)
 have C1 := zA.mk (Kd.zY C1.out hb)
 have X2 := zA.mk (zK X2.out hb)
 have C2 := zA.mk (Kd.zY C2.out hb)
 have X3 := zA.mk (zK X3.out hb)
 have C3 := zA.mk (Kd.zY C3.out hb)
 have C4 := zA.mk (Kd.zY C4.out hb)
 have B0 := zA.mk (zT B0.out hb)
 have HT := zA.mk (HT.out.below hb)
 clear hb
 generalize wq.alloc (.cells #[.int .i64 2, .slice A4 4 c4] 24) = W4 at X1 C1 X2 C2 X3 C3 X4 C4 B0 HT ⊢
 generalize wq.heap.size = b4 at X4 ⊢
 have s0 := (show _ = some (Value.int .i64 2) from (zF X4.out 0).trans rfl)
 have s1 := (show _ = some (Value.slice A4 4 c4) from (zF X4.out 1).trans rfl)
 go_upto_region 6 with (go_at_call 13; (refine (callDel a_d a_cr.1 a_cr.2.1 a_dr.1 a_dr.2 A4 c4 _ C4.out (by omega) HT.out).mono ?_); rintro e wq ⟨A5, c5, rfl, hC, hB⟩; have C5 := zA.mk hC; have B0 := zA.mk (zT B0.out hB); have HT := zA.mk (HT.out.below hB); have X1 := zA.mk (zK X1.out hB); have C1 := zA.mk (Kd.zY C1.out hB); have X2 := zA.mk (zK X2.out hB); have C2 := zA.mk (Kd.zY C2.out hB); have X3 := zA.mk (zK X3.out hB); have C3 := zA.mk (Kd.zY C3.out hB); have X4 := zA.mk (zK X4.out hB); have C4 := zA.mk (Kd.zY C4.out hB); clear hC hB)
 clear s0 s1
 have X5 := zA.mk (yM wq (.cells #[.int .i64 3, .slice A5 4 c5] 24))
 have hb := zH (Below.refl wq.heap.size wq) (.cells #[.int .i64 3, .slice A5 4 c5] 24)
 have X1 := zA.mk (zK X1.out hb)
 have C1 := zA.mk (Kd.zY C1.out hb)
 have X2 := zA.mk (zK X2.out hb)
 have C2 := zA.mk (Kd.zY C2.out hb)
 have X3 := zA.mk (zK X3.out hb)
 have C3 := zA.mk (Kd.zY C3.out hb)
 have X4 := zA.mk (zK X4.out hb)
 have C4 := zA.mk (Kd.zY C4.out hb)
 have C5 := zA.mk (Kd.zY C5.out hb)
 have B0 := zA.mk (zT B0.out hb)
 have HT := zA.mk (HT.out.below hb)
 clear hb
 generalize wq.alloc (.cells #[.int .i64 3, .slice A5 4 c5] 24) = W5 at X1 C1 X2 C2 X3 C3 X4 C4 X5 C5 B0 HT ⊢
 generalize wq.heap.size = b5 at X5 ⊢
 have s0 := (show _ = some (Value.int .i64 3) from (zF X5.out 0).trans rfl)
 have s1 := (show _ = some (Value.slice A5 4 c5) from (zF X5.out 1).trans rfl)
 go_upto_region 7 with (go_at_call 13; (refine (callDel a_e a_dr.1 a_dr.2 (r1 := 0) (n1 := 0) rfl rfl A5 c5 _ C5.out (by omega) HT.out).mono ?_); rintro e wq ⟨A6, c6, rfl, hC, hB⟩; have C6 := zA.mk hC; have B0 := zA.mk (zT B0.out hB); have HT := zA.mk (HT.out.below hB); have X1 := zA.mk (zK X1.out hB); have C1 := zA.mk (Kd.zY C1.out hB); have X2 := zA.mk (zK X2.out hB); have C2 := zA.mk (Kd.zY C2.out hB); have X3 := zA.mk (zK X3.out hB); have C3 := zA.mk (Kd.zY C3.out hB); have X4 := zA.mk (zK X4.out hB); have C4 := zA.mk (Kd.zY C4.out hB); have X5 := zA.mk (zK X5.out hB); have C5 := zA.mk (Kd.zY C5.out hB); clear hC hB)
 clear s0 s1
 have X6 := zA.mk (yM wq (.cells #[.int .i64 0, .slice A6 0 c6] 24))
 have hb := zH (Below.refl wq.heap.size wq) (.cells #[.int .i64 0, .slice A6 0 c6] 24)
 have X1 := zA.mk (zK X1.out hb)
 have C1 := zA.mk (Kd.zY C1.out hb)
 have X2 := zA.mk (zK X2.out hb)
 have C2 := zA.mk (Kd.zY C2.out hb)
 have X3 := zA.mk (zK X3.out hb)
 have C3 := zA.mk (Kd.zY C3.out hb)
 have X4 := zA.mk (zK X4.out hb)
 have C4 := zA.mk (Kd.zY C4.out hb)
 have X5 := zA.mk (zK X5.out hb)
 have C5 := zA.mk (Kd.zY C5.out hb)
 have C6 := zA.mk (Kd.zY C6.out hb)
 have B0 := zA.mk (zT B0.out hb)
 have HT := zA.mk (HT.out.below hb)
 clear hb
 generalize wq.alloc (.cells #[.int .i64 0, .slice A6 0 c6] 24) = W6 at X1 C1 X2 C2 X3 C3 X4 C4 X5 C5 X6 C6 B0 HT ⊢
 generalize wq.heap.size = b6 at X6 ⊢
 have s0 := (show _ = some (Value.int .i64 2) from (zF X4.out 0).trans rfl)
 have s1 := (show _ = some (Value.slice A4 4 c4) from (zF X4.out 1).trans rfl)
 go_upto_region 8 with (go_at_call 11; (refine (zbf a_f a_cr.1 a_cr.2.1 (r1 := 0) (n1 := 0) rfl rfl A4 c4 _ C4.out (by omega) HT.out).mono ?_); rintro e wq ⟨A7, c7, rfl, hC, hB⟩; have C7 := zA.mk hC; have B0 := zA.mk (zT B0.out hB); have HT := zA.mk (HT.out.below hB); have X1 := zA.mk (zK X1.out hB); have C1 := zA.mk (Kd.zY C1.out hB); have X2 := zA.mk (zK X2.out hB); have C2 := zA.mk (Kd.zY C2.out hB); have X3 := zA.mk (zK X3.out hB); have C3 := zA.mk (Kd.zY C3.out hB); have X4 := zA.mk (zK X4.out hB); have C4 := zA.mk (Kd.zY C4.out hB); have X5 := zA.mk (zK X5.out hB); have C5 := zA.mk (Kd.zY C5.out hB); have X6 := zA.mk (zK X6.out hB); have C6 := zA.mk (Kd.zY C6.out hB); clear hC hB)
 clear s0 s1
 have X7 := zA.mk (yM wq (.cells #[.int .i64 0, .slice A7 0 c7] 24))
 have hb := zH (Below.refl wq.heap.size wq) (.cells #[.int .i64 0, .slice A7 0 c7] 24)
 have X1 := zA.mk (zK X1.out hb)
 have C1 := zA.mk (Kd.zY C1.out hb)
 have X2 := zA.mk (zK X2.out hb)
 have C2 := zA.mk (Kd.zY C2.out hb)
 have X3 := zA.mk (zK X3.out hb)
 have C3 := zA.mk (Kd.zY C3.out hb)
 have X4 := zA.mk (zK X4.out hb)
 have C4 := zA.mk (Kd.zY C4.out hb)
 have X5 := zA.mk (zK X5.out hb)
 have C5 := zA.mk (Kd.zY C5.out hb)
 have X6 := zA.mk (zK X6.out hb)
 have C6 := zA.mk (Kd.zY C6.out hb)
 have C7 := zA.mk (Kd.zY C7.out hb)
 have B0 := zA.mk (zT B0.out hb)
 have HT := zA.mk (HT.out.below hb)
 clear hb
 generalize wq.alloc (.cells #[.int .i64 0, .slice A7 0 c7] 24) = W7 at X1 C1 X2 C2 X3 C3 X4 C4 X5 C5 X6 C6 X7 C7 B0 HT ⊢
 generalize wq.heap.size = b7 at X7 ⊢
 have s0 := (show _ = some (Value.int .i64 2) from (zF X4.out 0).trans rfl)
 have s1 := (show _ = some (Value.slice A4 4 c4) from (zF X4.out 1).trans rfl)
 go_upto_region 9 with (go_at_call 16; (refine (callFirst A4 c4 _ C4.out HT.out).mono ?_); rintro e wq ⟨rfl, hB⟩; have B0 := zA.mk (zT B0.out hB); have HT := zA.mk (HT.out.below hB); have X4 := zA.mk (zK X4.out hB); have C4 := zA.mk (Kd.zY C4.out hB); have X5 := zA.mk (zK X5.out hB); have C5 := zA.mk (Kd.zY C5.out hB); clear hB)
 clear s0 s1
 have X8 := zA.mk (yM wq (.cells #[.int .u64 9, .int .i64 1] 27))
 have hb := zH (Below.refl wq.heap.size wq) (.cells #[.int .u64 9, .int .i64 1] 27)
 have X4 := zA.mk (zK X4.out hb)
 have C4 := zA.mk (Kd.zY C4.out hb)
 have X5 := zA.mk (zK X5.out hb)
 have C5 := zA.mk (Kd.zY C5.out hb)
 have B0 := zA.mk (zT B0.out hb)
 have HT := zA.mk (HT.out.below hb)
 clear hb
 generalize wq.alloc (.cells #[.int .u64 9, .int .i64 1] 27) = W8 at X4 C4 X5 C5 X8 B0 HT ⊢
 generalize wq.heap.size = b8 at X8 ⊢
 have s0 := (show _ = some (Value.int .i64 2) from (zF X4.out 0).trans rfl)
 have s1 := (show _ = some (Value.slice A4 4 c4) from (zF X4.out 1).trans rfl)
 have s2 := (show _ = some (Value.int .i64 3) from (zF X5.out 0).trans rfl)
 have s3 := (show _ = some (Value.slice A5 4 c5) from (zF X5.out 1).trans rfl)
 have s4 := (show _ = some (Value.int .u64 9) from (zF X8.out 0).trans rfl)
 have s5 := (show _ = some (Value.int .i64 1) from (zF X8.out 1).trans rfl)
 obtain ⟨ad, e1, _, r1, _⟩ := zaA C4.out 1 (by omega) (by omega)
 obtain ⟨ad2, e2, _, r3, _⟩ := zaA C4.out 3 (by omega) (by omega)
 obtain rfl := Option.some.inj (e1.symm.trans e2)
 rw [show (aC.ns.getD (1 : Int).toNat emp).red = true from a_cr.2.2.1] at r1
 rw [show (aC.ns.getD (3 : Int).toNat emp).red = true from a_cr.2.2.2] at r3
 replace r1 : W8.cell? ⟨ad.block, ad.off + 6 + 1, none⟩ = some (.bool true) := r1
 replace r3 : W8.cell? ⟨ad.block, ad.off + 18 + 1, none⟩ = some (.bool true) := r3
 subst e1; clear e2
 go_wp2_with (first
  | (go_at_call 21; (refine (callWalk A5 c5 _ C5.out HT.out).mono ?_); rintro e w1 ⟨A9, c9, rfl, hB⟩; have B1 := zA.mk (zT B0.out hB); have HT1 := zA.mk (HT.out.below hB); have Y4 := zA.mk (zK X4.out hB); have D4 := zA.mk (Kd.zY C4.out hB); have Y5 := zA.mk (zK X5.out hB); have D5 := zA.mk (Kd.zY C5.out hB); clear hB; have y0 := (show _ = some (Value.int .i64 2) from (zF Y4.out 0).trans rfl); have y1 := (show _ = some (Value.slice (some ad) 4 c4) from (zF Y4.out 1).trans rfl))
  | (go_at_call 23; (refine (callHeight (some ad) c4 _ D4.out HT1.out).mono ?_); rintro e w2 ⟨rfl, hB⟩; have B2 := zA.mk (zT B1.out hB); have HT2 := zA.mk (HT1.out.below hB); have Z5 := zA.mk (zK Y5.out hB); have E5 := zA.mk (Kd.zY D5.out hB); clear hB; have z0 := (show _ = some (Value.int .i64 3) from (zF Z5.out 0).trans rfl); have z1 := (show _ = some (Value.slice A5 4 c5) from (zF Z5.out 1).trans rfl))
  | (go_at_call 18; (refine (callRight A5 c5 _ E5.out HT2.out).mono ?_); rintro e w3 ⟨rfl, hB⟩; have B3 := zA.mk (zT B2.out hB); clear hB))
 go_ret
 exact ⟨rfl, B3.out⟩
end Go.Proofs.YtfapmcpmfeigbaaDoor.Tm
end
