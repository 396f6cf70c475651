/- Parts of the proof, joined: Rm2. -/
import Derived.Test.YtfapmcpmfeigbaaDoorUD20
import Derived.StillTailTactics
namespace Go.Proofs.YtfapmcpmfeigbaaDoor.Tm
open Go.RowKit Go Go.Proofs Go.Proofs.YtfapmcpmfeigbaaDoor Go.Proofs.YtfapmcpmfeigbaaDoor.Tr Go.Proofs.YtfapmcpmfeigbaaDoorW.PrintWords Go.Proofs.YtfapmcpmfeigbaaDoorW.PrintLast Go.Proofs.YtfapmcpmfeigbaaDoorW.PrintMore
set_option linter.unusedVariables false
set_option linter.unusedSimpArgs false
variable {w : World} {t : St}
set_option maxHeartbeats 8000000 in
set_option maxRecDepth 100000 in
theorem rhang_ {own : Bool} {S N : Nat} (A : Option Addr) (c : Nat) (h : Tv own S N w A c t.ns) (hS : S ≤ w.heap.size) (hN : N ≤ w.heap.size) (hl : t.ns.length ≤ 1000000) (x : Int) (hx : x < t.ns.length) (s : Bool) (y : Int) (hy : y < t.ns.length) :
  Calls Tryd.prog 41 #[.agg #[.int .i64 t.rt, .slice A t.ns.length c], .int .i64 x, .int .i64 (sd s), .int .i64 y] w fun e w' => vO own S N w (zZ t x s y) e w' := by
 have SB := zA.mk (Sb.start h hS hN)
 have HL := zA.mk hl; clear h hS hN hl
 go_enter Tryd.func41, Tryd.ntmps41
 go_upto_region 1 with (fail)
 generalize (w.alloc (.cells #[.int .i64 t.rt, .slice A t.ns.length c] 24)).alloc (.cells #[.int .i64 0, .slice none 0 0] 24) = W1 at SB ⊢
 have a0 := SB.out.a0; have a1 := SB.out.a1; have f0 := SB.out.f 0; have f1 := SB.out.f 1; have y0 := SB.out.y0; have y1 := SB.out.y1; have yf0 := SB.out.yf 0; have yf1 := SB.out.yf 1
 by_cases h0 : x < 0
 ·have HT := zA.mk (show zZ t x s y = jJ ⟨t.ns, y⟩ x y by unfold zZ xS; rw [if_pos h0])
  have HY := zA.mk (show y < (((⟨t.ns, y⟩ : St).ns.length : Nat) : Int) from hy)
  have HL1 := zA.mk (show (⟨t.ns, y⟩ : St).ns.length ≤ 1000000 from HL.out)
  go_upto_region 8 with (fail)
  replace SB := zA.mk (SB.out.root y)
  clear a0 a1 f0 f1 y0 y1 yf0 yf1
  generalize W1.setCell ⟨w.heap.size, 0, none⟩ (.int .i64 y) = W2 at SB ⊢
  have hlen : t.ns.length = (⟨t.ns, y⟩ : St).ns.length := rfl
  generalize ht1 : (⟨t.ns, y⟩ : St) = t1 at SB HT HY HL1 hlen
  rw [hlen]
  clear ht1 hlen
  have a0 := SB.out.a0; have a1 := SB.out.a1; have f0 := SB.out.f 0; have f1 := SB.out.f 1; have y0 := SB.out.y0; have y1 := SB.out.y1; have yf0 := SB.out.yf 0; have yf1 := SB.out.yf 1
  by_cases hy0 : y < 0
  ·have HE := zA.mk (show zZ t x s y = t1 by rw [HT.out]; unfold jJ; rw [if_neg (by omega)])
   have hyd : decide (0 ≤ y) = false := decide_eq_false (by omega)
   go_wp2
   refine bodyPost_ret (xP (cs := #[.int .i64 (t1).rt, .slice A (t1).ns.length c]) rfl _ _ (w.heap.size + 1) 24 (0, 0) _ rfl (jZ SB.out.zb rfl _ _) Tryd.underlying24 rfl (by kernel_rfl)) rfl ?_
   rw [HE.out]
   exact SB.out.fin SB.out.tb.tv
  have hy2 : 0 ≤ y := by omega
  have hy3 := HY.out
  obtain ⟨ad1, e1⟩ := SB.out.some (by omega)
  subst e1
  obtain ⟨d0, d1, d2, d3, d4, d5⟩ := kH SB.out.tb.tv.rd y hy2 hy3
  go_upto_region 11 with (fail)
  have HNg3 := zA.mk (yM W2 (.cells #[.bool (gn t1 y.toNat).inn, .bool (redA t1 y), .int .u64 (gn t1 y.toNat).v, .int .i64 (kidA t1 y false), .int .i64 (kidA t1 y true), .int .i64 x] 57))
  replace SB := zA.mk (SB.out.below (zH (Below.refl _ _) (.cells #[.bool (gn t1 y.toNat).inn, .bool (redA t1 y), .int .u64 (gn t1 y.toNat).v, .int .i64 (kidA t1 y false), .int .i64 (kidA t1 y true), .int .i64 x] 57)))
  clear a0 a1 f0 f1 y0 y1 yf0 yf1; clear d0 d1 d2 d3 d4 d5
  generalize W2.alloc (.cells #[.bool (gn t1 y.toNat).inn, .bool (redA t1 y), .int .u64 (gn t1 y.toNat).v, .int .i64 (kidA t1 y false), .int .i64 (kidA t1 y true), .int .i64 x] 57) = W3 at SB HNg3 ⊢
  have hn := HNg3.out
  generalize W2.heap.size = g3 at hn ⊢
  have b0 := (show W3.cell? ⟨g3, 0, none⟩ = some (.bool (gn t1 y.toNat).inn) from (zF hn 0).trans rfl)
  have b1 := (show W3.cell? ⟨g3, 1, none⟩ = some (.bool (redA t1 y)) from (zF hn 1).trans rfl)
  have b2 := (show W3.cell? ⟨g3, 2, none⟩ = some (.int .u64 (gn t1 y.toNat).v) from (zF hn 2).trans rfl)
  have b3 := (show W3.cell? ⟨g3, 3, none⟩ = some (.int .i64 (kidA t1 y false)) from (zF hn 3).trans rfl)
  have b4 := (show W3.cell? ⟨g3, 4, none⟩ = some (.int .i64 (kidA t1 y true)) from (zF hn 4).trans rfl)
  have b5 := (show W3.cell? ⟨g3, 5, none⟩ = some (.int .i64 x) from (zF hn 5).trans rfl)
  clear hn
  have a0 := SB.out.a0; have a1 := SB.out.a1; have f0 := SB.out.f 0; have f1 := SB.out.f 1; have y0 := SB.out.y0; have y1 := SB.out.y1; have yf0 := SB.out.yf 0; have yf1 := SB.out.yf 1
  have HP := zA.mk (show sn t1 y.toNat ⟨(gn t1 y.toNat).inn, (redA t1 y), (gn t1 y.toNat).v, (kidA t1 y false), (kidA t1 y true), x⟩ = zZ t x s y by rw [HT.out]; unfold jJ; rw [if_pos hy2]; unfold redA; rw [decide_eq_true hy2]; rfl)
  go_upto_region 12 with (go_at_call 42; refine (zbI (own := own) (S := S) (N := N) (t := t1) _ c SB.out.tb.tv.rd SB.out.sS SB.out.sN HL1.out y hy2 hy3 ⟨(gn t1 y.toNat).inn, (redA t1 y), (gn t1 y.toNat).v, (kidA t1 y false), (kidA t1 y true), x⟩).mono ?_; rintro e w3 ⟨A3, c3, rfl, hT3, hB⟩; rw [HP.out] at hT3; have TV := zA.mk hT3; replace SB := zA.mk (SB.out.below hB); replace a0 := SB.out.a0; replace a1 := SB.out.a1; replace f0 := SB.out.f 0; replace f1 := SB.out.f 1; replace y0 := SB.out.y0; replace y1 := SB.out.y1; replace yf0 := SB.out.yf 0; replace yf1 := SB.out.yf 1; rw [HP.out]; clear hT3 hB)
  replace SB := zA.mk (SB.out.store TV.out)
  clear a0 a1 f0 f1 y0 y1 yf0 yf1
  generalize World.setCell _ _ _ = WL at SB ⊢
  have a0 := SB.out.a0; have a1 := SB.out.a1; have f0 := SB.out.f 0; have f1 := SB.out.f 1; have y0 := SB.out.y0; have y1 := SB.out.y1; have yf0 := SB.out.yf 0; have yf1 := SB.out.yf 1
  go_wp2
  refine bodyPost_ret (xP (cs := #[.int .i64 ((zZ t x s y)).rt, .slice A3 ((zZ t x s y)).ns.length c3]) rfl _ _ (w.heap.size + 1) 24 (0, 0) _ rfl (jZ SB.out.zb rfl _ _) Tryd.underlying24 rfl (by kernel_rfl)) rfl ?_
  exact SB.out.fin SB.out.tb.tv
 have h1 : decide (x < 0) = false := decide_eq_false h0
 have h2 : 0 ≤ x := by omega
 obtain ⟨ad, rfl⟩ := SB.out.some (by omega)
 obtain ⟨d0, d1, d2, d3, d4, d5⟩ := kH SB.out.tb.tv.rd x h2 hx
 cases s with
 | false =>
  change Code.wp Tryd.prog _ _ { tmps := #[.agg #[.int .i64 t.rt, .slice (some ad) t.ns.length c], .int .i64 x, .int .i64 0, .int .i64 y, _, _, _, _, _, _, _, _, _, _, _, _, _, _, _, _, _, _, _, _, _, _, _, _, _, _, _, _, _, _, _, _, _, _, _, _, _, _, _, _], defers := _ } _
  go_upto_region 7 with (fail)
  have HNg2 := zA.mk (yM W1 (.cells #[.bool (gn t x.toNat).inn, .bool (redA t x), .int .u64 (gn t x.toNat).v, .int .i64 y, .int .i64 (kidA t x true), .int .i64 (upA t x)] 57))
  replace SB := zA.mk (SB.out.below (zH (Below.refl _ _) (.cells #[.bool (gn t x.toNat).inn, .bool (redA t x), .int .u64 (gn t x.toNat).v, .int .i64 y, .int .i64 (kidA t x true), .int .i64 (upA t x)] 57)))
  clear a0 a1 f0 f1 y0 y1 yf0 yf1; clear d0 d1 d2 d3 d4 d5
  generalize W1.alloc (.cells #[.bool (gn t x.toNat).inn, .bool (redA t x), .int .u64 (gn t x.toNat).v, .int .i64 y, .int .i64 (kidA t x true), .int .i64 (upA t x)] 57) = W2 at SB HNg2 ⊢
  have hn := HNg2.out
  generalize W1.heap.size = g2 at hn ⊢
  have b0 := (show W2.cell? ⟨g2, 0, none⟩ = some (.bool (gn t x.toNat).inn) from (zF hn 0).trans rfl)
  have b1 := (show W2.cell? ⟨g2, 1, none⟩ = some (.bool (redA t x)) from (zF hn 1).trans rfl)
  have b2 := (show W2.cell? ⟨g2, 2, none⟩ = some (.int .u64 (gn t x.toNat).v) from (zF hn 2).trans rfl)
  have b3 := (show W2.cell? ⟨g2, 3, none⟩ = some (.int .i64 y) from (zF hn 3).trans rfl)
  have b4 := (show W2.cell? ⟨g2, 4, none⟩ = some (.int .i64 (kidA t x true)) from (zF hn 4).trans rfl)
  have b5 := (show W2.cell? ⟨g2, 5, none⟩ = some (.int .i64 (upA t x)) from (zF hn 5).trans rfl)
  clear hn
  have a0 := SB.out.a0; have a1 := SB.out.a1; have f0 := SB.out.f 0; have f1 := SB.out.f 1; have y0 := SB.out.y0; have y1 := SB.out.y1; have yf0 := SB.out.yf 0; have yf1 := SB.out.yf 1
  have HP := zA.mk (show sn t x.toNat ⟨(gn t x.toNat).inn, (redA t x), (gn t x.toNat).v, y, (kidA t x true), (upA t x)⟩ = xS t x false y by unfold xS; rw [if_neg h0]; unfold redA; rw [decide_eq_true h2]; rfl)
  have HT := zA.mk (show zZ t x false y = jJ (xS t x false y) x y from rfl)
  have HY := zA.mk (show y < ((xS t x false y).ns.length : Int) by rw [jC]; exact hy)
  have HL1 := zA.mk (show (xS t x false y).ns.length ≤ 1000000 by rw [jC]; exact HL.out)
  obtain ⟨t1, ht1⟩ : ∃ t1, t1 = xS t x false y := ⟨_, rfl⟩
  rw [← ht1] at HP HT HY HL1
  clear ht1
  go_upto_region 8 with (go_at_call 42; refine (zbI (own := own) (S := S) (N := N) (t := t) _ c SB.out.tb.tv.rd SB.out.sS SB.out.sN HL.out x h2 hx ⟨(gn t x.toNat).inn, (redA t x), (gn t x.toNat).v, y, (kidA t x true), (upA t x)⟩).mono ?_; rintro e w3 ⟨A2, c2, rfl, hT3, hB⟩; rw [HP.out] at hT3; have TV := zA.mk hT3; replace SB := zA.mk (SB.out.below hB); replace a0 := SB.out.a0; replace a1 := SB.out.a1; replace f0 := SB.out.f 0; replace f1 := SB.out.f 1; replace y0 := SB.out.y0; replace y1 := SB.out.y1; replace yf0 := SB.out.yf 0; replace yf1 := SB.out.yf 1; rw [HP.out]; clear hT3 hB)
  replace SB := zA.mk (SB.out.store TV.out)
  clear a0 a1 f0 f1 y0 y1 yf0 yf1; clear TV b0 b1 b2 b3 b4 b5
  generalize World.setCell _ _ _ = WK at SB ⊢
  have a0 := SB.out.a0; have a1 := SB.out.a1; have f0 := SB.out.f 0; have f1 := SB.out.f 1; have y0 := SB.out.y0; have y1 := SB.out.y1; have yf0 := SB.out.yf 0; have yf1 := SB.out.yf 1
  by_cases hy0 : y < 0
  ·have HE := zA.mk (show zZ t x false y = t1 by rw [HT.out]; unfold jJ; rw [if_neg (by omega)])
   have hyd : decide (0 ≤ y) = false := decide_eq_false (by omega)
   go_wp2
   refine bodyPost_ret (xP (cs := #[.int .i64 (t1).rt, .slice A2 (t1).ns.length c2]) rfl _ _ (w.heap.size + 1) 24 (0, 0) _ rfl (jZ SB.out.zb rfl _ _) Tryd.underlying24 rfl (by kernel_rfl)) rfl ?_
   rw [HE.out]
   exact SB.out.fin SB.out.tb.tv
  have hy2 : 0 ≤ y := by omega
  have hy3 := HY.out
  obtain ⟨ad1, e1⟩ := SB.out.some (by omega)
  subst e1
  obtain ⟨d0, d1, d2, d3, d4, d5⟩ := kH SB.out.tb.tv.rd y hy2 hy3
  go_upto_region 11 with (fail)
  have HNg3 := zA.mk (yM W2 (.cells #[.bool (gn t1 y.toNat).inn, .bool (redA t1 y), .int .u64 (gn t1 y.toNat).v, .int .i64 (kidA t1 y false), .int .i64 (kidA t1 y true), .int .i64 x] 57))
  replace SB := zA.mk (SB.out.below (zH (Below.refl _ _) (.cells #[.bool (gn t1 y.toNat).inn, .bool (redA t1 y), .int .u64 (gn t1 y.toNat).v, .int .i64 (kidA t1 y false), .int .i64 (kidA t1 y true), .int .i64 x] 57)))
  clear a0 a1 f0 f1 y0 y1 yf0 yf1; clear d0 d1 d2 d3 d4 d5
  generalize W2.alloc (.cells #[.bool (gn t1 y.toNat).inn, .bool (redA t1 y), .int .u64 (gn t1 y.toNat).v, .int .i64 (kidA t1 y false), .int .i64 (kidA t1 y true), .int .i64 x] 57) = W3 at SB HNg3 ⊢
  have hn := HNg3.out
  generalize W2.heap.size = g3 at hn ⊢
  have b0 := (show W3.cell? ⟨g3, 0, none⟩ = some (.bool (gn t1 y.toNat).inn) from (zF hn 0).trans rfl)
  have b1 := (show W3.cell? ⟨g3, 1, none⟩ = some (.bool (redA t1 y)) from (zF hn 1).trans rfl)
  have b2 := (show W3.cell? ⟨g3, 2, none⟩ = some (.int .u64 (gn t1 y.toNat).v) from (zF hn 2).trans rfl)
  have b3 := (show W3.cell? ⟨g3, 3, none⟩ = some (.int .i64 (kidA t1 y false)) from (zF hn 3).trans rfl)
  have b4 := (show W3.cell? ⟨g3, 4, none⟩ = some (.int .i64 (kidA t1 y true)) from (zF hn 4).trans rfl)
  have b5 := (show W3.cell? ⟨g3, 5, none⟩ = some (.int .i64 x) from (zF hn 5).trans rfl)
  clear hn
  have a0 := SB.out.a0; have a1 := SB.out.a1; have f0 := SB.out.f 0; have f1 := SB.out.f 1; have y0 := SB.out.y0; have y1 := SB.out.y1; have yf0 := SB.out.yf 0; have yf1 := SB.out.yf 1
  have HP := zA.mk (show sn t1 y.toNat ⟨(gn t1 y.toNat).inn, (redA t1 y), (gn t1 y.toNat).v, (kidA t1 y false), (kidA t1 y true), x⟩ = zZ t x false y by rw [HT.out]; unfold jJ; rw [if_pos hy2]; unfold redA; rw [decide_eq_true hy2]; rfl)
  go_upto_region 12 with (go_at_call 42; refine (zbI (own := own) (S := S) (N := N) (t := t1) _ c2 SB.out.tb.tv.rd SB.out.sS SB.out.sN HL1.out y hy2 hy3 ⟨(gn t1 y.toNat).inn, (redA t1 y), (gn t1 y.toNat).v, (kidA t1 y false), (kidA t1 y true), x⟩).mono ?_; rintro e w3 ⟨A3, c3, rfl, hT3, hB⟩; rw [HP.out] at hT3; have TV := zA.mk hT3; replace SB := zA.mk (SB.out.below hB); replace a0 := SB.out.a0; replace a1 := SB.out.a1; replace f0 := SB.out.f 0; replace f1 := SB.out.f 1; replace y0 := SB.out.y0; replace y1 := SB.out.y1; replace yf0 := SB.out.yf 0; replace yf1 := SB.out.yf 1; rw [HP.out]; clear hT3 hB)
  replace SB := zA.mk (SB.out.store TV.out)
  clear a0 a1 f0 f1 y0 y1 yf0 yf1
  generalize World.setCell _ _ _ = WL at SB ⊢
  have a0 := SB.out.a0; have a1 := SB.out.a1; have f0 := SB.out.f 0; have f1 := SB.out.f 1; have y0 := SB.out.y0; have y1 := SB.out.y1; have yf0 := SB.out.yf 0; have yf1 := SB.out.yf 1
  go_wp2
  refine bodyPost_ret (xP (cs := #[.int .i64 ((zZ t x false y)).rt, .slice A3 ((zZ t x false y)).ns.length c3]) rfl _ _ (w.heap.size + 1) 24 (0, 0) _ rfl (jZ SB.out.zb rfl _ _) Tryd.underlying24 rfl (by kernel_rfl)) rfl ?_
  exact SB.out.fin SB.out.tb.tv
 | true =>
  change Code.wp Tryd.prog _ _ { tmps := #[.agg #[.int .i64 t.rt, .slice (some ad) t.ns.length c], .int .i64 x, .int .i64 1, .int .i64 y, _, _, _, _, _, _, _, _, _, _, _, _, _, _, _, _, _, _, _, _, _, _, _, _, _, _, _, _, _, _, _, _, _, _, _, _, _, _, _, _], defers := _ } _
  go_upto_region 7 with (fail)
  have HNg2 := zA.mk (yM W1 (.cells #[.bool (gn t x.toNat).inn, .bool (redA t x), .int .u64 (gn t x.toNat).v, .int .i64 (kidA t x false), .int .i64 y, .int .i64 (upA t x)] 57))
  replace SB := zA.mk (SB.out.below (zH (Below.refl _ _) (.cells #[.bool (gn t x.toNat).inn, .bool (redA t x), .int .u64 (gn t x.toNat).v, .int .i64 (kidA t x false), .int .i64 y, .int .i64 (upA t x)] 57)))
  clear a0 a1 f0 f1 y0 y1 yf0 yf1; clear d0 d1 d2 d3 d4 d5
  generalize W1.alloc (.cells #[.bool (gn t x.toNat).inn, .bool (redA t x), .int .u64 (gn t x.toNat).v, .int .i64 (kidA t x false), .int .i64 y, .int .i64 (upA t x)] 57) = W2 at SB HNg2 ⊢
  have hn := HNg2.out
  generalize W1.heap.size = g2 at hn ⊢
  have b0 := (show W2.cell? ⟨g2, 0, none⟩ = some (.bool (gn t x.toNat).inn) from (zF hn 0).trans rfl)
  have b1 := (show W2.cell? ⟨g2, 1, none⟩ = some (.bool (redA t x)) from (zF hn 1).trans rfl)
  have b2 := (show W2.cell? ⟨g2, 2, none⟩ = some (.int .u64 (gn t x.toNat).v) from (zF hn 2).trans rfl)
  have b3 := (show W2.cell? ⟨g2, 3, none⟩ = some (.int .i64 (kidA t x false)) from (zF hn 3).trans rfl)
  have b4 := (show W2.cell? ⟨g2, 4, none⟩ = some (.int .i64 y) from (zF hn 4).trans rfl)
  have b5 := (show W2.cell? ⟨g2, 5, none⟩ = some (.int .i64 (upA t x)) from (zF hn 5).trans rfl)
  clear hn
  have a0 := SB.out.a0; have a1 := SB.out.a1; have f0 := SB.out.f 0; have f1 := SB.out.f 1; have y0 := SB.out.y0; have y1 := SB.out.y1; have yf0 := SB.out.yf 0; have yf1 := SB.out.yf 1
  have HP := zA.mk (show sn t x.toNat ⟨(gn t x.toNat).inn, (redA t x), (gn t x.toNat).v, (kidA t x false), y, (upA t x)⟩ = xS t x true y by unfold xS; rw [if_neg h0]; unfold redA; rw [decide_eq_true h2]; rfl)
  have HT := zA.mk (show zZ t x true y = jJ (xS t x true y) x y from rfl)
  have HY := zA.mk (show y < ((xS t x true y).ns.length : Int) by rw [jC]; exact hy)
  have HL1 := zA.mk (show (xS t x true y).ns.length ≤ 1000000 by rw [jC]; exact HL.out)
  obtain ⟨t1, ht1⟩ : ∃ t1, t1 = xS t x true y := ⟨_, rfl⟩
  rw [← ht1] at HP HT HY HL1
  clear ht1
  go_upto_region 8 with (go_at_call 42; refine (zbI (own := own) (S := S) (N := N) (t := t) _ c SB.out.tb.tv.rd SB.out.sS SB.out.sN HL.out x h2 hx ⟨(gn t x.toNat).inn, (redA t x), (gn t x.toNat).v, (kidA t x false), y, (upA t x)⟩).mono ?_; rintro e w3 ⟨A2, c2, rfl, hT3, hB⟩; rw [HP.out] at hT3; have TV := zA.mk hT3; replace SB := zA.mk (SB.out.below hB); replace a0 := SB.out.a0; replace a1 := SB.out.a1; replace f0 := SB.out.f 0; replace f1 := SB.out.f 1; replace y0 := SB.out.y0; replace y1 := SB.out.y1; replace yf0 := SB.out.yf 0; replace yf1 := SB.out.yf 1; rw [HP.out]; clear hT3 hB)
  replace SB := zA.mk (SB.out.store TV.out)
  clear a0 a1 f0 f1 y0 y1 yf0 yf1; clear TV b0 b1 b2 b3 b4 b5
  generalize World.setCell _ _ _ = WK at SB ⊢
  have a0 := SB.out.a0; have a1 := SB.out.a1; have f0 := SB.out.f 0; have f1 := SB.out.f 1; have y0 := SB.out.y0; have y1 := SB.out.y1; have yf0 := SB.out.yf 0; have yf1 := SB.out.yf 1
  by_cases hy0 : y < 0
  ·have HE := zA.mk (show zZ t x true y = t1 by rw [HT.out]; unfold jJ; rw [if_neg (by omega)])
   have hyd : decide (0 ≤ y) = false := decide_eq_false (by omega)
   go_wp2
   refine bodyPost_ret (xP (cs := #[.int .i64 (t1).rt, .slice A2 (t1).ns.length c2]) rfl _ _ (w.heap.size + 1) 24 (0, 0) _ rfl (jZ SB.out.zb rfl _ _) Tryd.underlying24 rfl (by kernel_rfl)) rfl ?_
   rw [HE.out]
   exact SB.out.fin SB.out.tb.tv
  have hy2 : 0 ≤ y := by omega
  have hy3 := HY.out
  obtain ⟨ad1, e1⟩ := SB.out.some (by omega)
  subst e1
  obtain ⟨d0, d1, d2, d3, d4, d5⟩ := kH SB.out.tb.tv.rd y hy2 hy3
  go_upto_region 11 with (fail)
  have HNg3 := zA.mk (yM W2 (.cells #[.bool (gn t1 y.toNat).inn, .bool (redA t1 y), .int .u64 (gn t1 y.toNat).v, .int .i64 (kidA t1 y false), .int .i64 (kidA t1 y true), .int .i64 x] 57))
  replace SB := zA.mk (SB.out.below (zH (Below.refl _ _) (.cells #[.bool (gn t1 y.toNat).inn, .bool (redA t1 y), .int .u64 (gn t1 y.toNat).v, .int .i64 (kidA t1 y false), .int .i64 (kidA t1 y true), .int .i64 x] 57)))
  clear a0 a1 f0 f1 y0 y1 yf0 yf1; clear d0 d1 d2 d3 d4 d5
  generalize W2.alloc (.cells #[.bool (gn t1 y.toNat).inn, .bool (redA t1 y), .int .u64 (gn t1 y.toNat).v, .int .i64 (kidA t1 y false), .int .i64 (kidA t1 y true), .int .i64 x] 57) = W3 at SB HNg3 ⊢
  have hn := HNg3.out
  generalize W2.heap.size = g3 at hn ⊢
  have b0 := (show W3.cell? ⟨g3, 0, none⟩ = some (.bool (gn t1 y.toNat).inn) from (zF hn 0).trans rfl)
  have b1 := (show W3.cell? ⟨g3, 1, none⟩ = some (.bool (redA t1 y)) from (zF hn 1).trans rfl)
  have b2 := (show W3.cell? ⟨g3, 2, none⟩ = some (.int .u64 (gn t1 y.toNat).v) from (zF hn 2).trans rfl)
  have b3 := (show W3.cell? ⟨g3, 3, none⟩ = some (.int .i64 (kidA t1 y false)) from (zF hn 3).trans rfl)
  have b4 := (show W3.cell? ⟨g3, 4, none⟩ = some (.int .i64 (kidA t1 y true)) from (zF hn 4).trans rfl)
  have b5 := (show W3.cell? ⟨g3, 5, none⟩ = some (.int .i64 x) from (zF hn 5).trans rfl)
  clear hn
  have a0 := SB.out.a0; have a1 := SB.out.a1; have f0 := SB.out.f 0; have f1 := SB.out.f 1; have y0 := SB.out.y0; have y1 := SB.out.y1; have yf0 := SB.out.yf 0; have yf1 := SB.out.yf 1
  have HP := zA.mk (show sn t1 y.toNat ⟨(gn t1 y.toNat).inn, (redA t1 y), (gn t1 y.toNat).v, (kidA t1 y false), (kidA t1 y true), x⟩ = zZ t x true y by rw [HT.out]; unfold jJ; rw [if_pos hy2]; unfold redA; rw [decide_eq_true hy2]; rfl)
  go_upto_region 12 with (go_at_call 42; refine (zbI (own := own) (S := S) (N := N) (t := t1) _ c2 SB.out.tb.tv.rd SB.out.sS SB.out.sN HL1.out y hy2 hy3 ⟨(gn t1 y.toNat).inn, (redA t1 y), (gn t1 y.toNat).v, (kidA t1 y false), (kidA t1 y true), x⟩).mono ?_; rintro e w3 ⟨A3, c3, rfl, hT3, hB⟩; rw [HP.out] at hT3; have TV := zA.mk hT3; replace SB := zA.mk (SB.out.below hB); replace a0 := SB.out.a0; replace a1 := SB.out.a1; replace f0 := SB.out.f 0; replace f1 := SB.out.f 1; replace y0 := SB.out.y0; replace y1 := SB.out.y1; replace yf0 := SB.out.yf 0; replace yf1 := SB.out.yf 1; rw [HP.out]; clear hT3 hB)
  replace SB := zA.mk (SB.out.store TV.out)
  clear a0 a1 f0 f1 y0 y1 yf0 yf1
  generalize World.setCell _ _ _ = WL at SB ⊢
  have a0 := SB.out.a0; have a1 := SB.out.a1; have f0 := SB.out.f 0; have f1 := SB.out.f 1; have y0 := SB.out.y0; have y1 := SB.out.y1; have yf0 := SB.out.yf 0; have yf1 := SB.out.yf 1
  go_wp2
  refine bodyPost_ret (xP (cs := #[.int .i64 ((zZ t x true y)).rt, .slice A3 ((zZ t x true y)).ns.length c3]) rfl _ _ (w.heap.size + 1) 24 (0, 0) _ rfl (jZ SB.out.zb rfl _ _) Tryd.underlying24 rfl (by kernel_rfl)) rfl ?_
  exact SB.out.fin SB.out.tb.tv
theorem qV (A : Option Addr) (c : Nat) (h : kn.C w A t.ns.length t.ns) (x : Int) (h0 : 0 ≤ x) (hx : x < t.ns.length) (s : Bool) (z : Int) (hz : sd s = z) (r : Int) (hr : kidA t x s = r) :
  Calls Tryd.prog 38 #[.agg #[.int .i64 t.rt, .slice A t.ns.length c], .int .i64 x, .int .i64 z] w fun e w' => e = .returned (.int .i64 r) ∧ Below w.heap.size w w' := by
 subst hz hr
 exact rkid_ A c h x h0 hx s
theorem xW (A : Option Addr) (c : Nat) (h : kn.C w A t.ns.length t.ns) (x : Int) (hx : x < t.ns.length) (r : Bool) (hr : redA t x = r) :
  Calls Tryd.prog 58 #[.agg #[.int .i64 t.rt, .slice A t.ns.length c], .int .i64 x] w fun e w' => e = .returned (.bool r) ∧ Below w.heap.size w w' := by
 subst hr
 exact rred_ A c h x hx
theorem jX (A : Option Addr) (c : Nat) (h : kn.C w A t.ns.length t.ns) (ho : Ok t) (x : Int) (h0 : 0 ≤ x) (hx : x < t.ns.length) (r : Int) (hr : sd (onA t x) = r) :
  Calls Tryd.prog 51 #[.agg #[.int .i64 t.rt, .slice A t.ns.length c], .int .i64 x] w fun e w' => e = .returned (.int .i64 r) ∧ Below w.heap.size w w' := by
 subst hr
 exact rside_ A c h x h0 hx (ho.up x)
theorem qZ {own : Bool} {S N : Nat} (A : Option Addr) (c : Nat) (h : Tv own S N w A c t.ns) (hS : S ≤ w.heap.size) (hN : N ≤ w.heap.size) (hl : t.ns.length ≤ 1000000) (x : Int) (hx : x < t.ns.length) (s : Bool) (z : Int) (hz : sd s = z) (y : Int) (hy : y < t.ns.length) :
  Calls Tryd.prog 41 #[.agg #[.int .i64 t.rt, .slice A t.ns.length c], .int .i64 x, .int .i64 z, .int .i64 y] w fun e w' => vO own S N w (zZ t x s y) e w' := by
 subst hz
 exact rhang_ A c h hS hN hl x hx s y hy
set_option maxHeartbeats 8000000 in
set_option maxRecDepth 100000 in
theorem rturn_ {own : Bool} {S N : Nat} (A : Option Addr) (c : Nat) (h : Tv own S N w A c t.ns) (hS : S ≤ w.heap.size) (hN : N ≤ w.heap.size) (hl : t.ns.length ≤ 1000000) (ho : Ok t) (x : Int) (h0 : 0 ≤ x) (hx : x < t.ns.length) (s : Bool) (hk : 0 ≤ kidA t x (!s)) :
  Calls Tryd.prog 70 #[.agg #[.int .i64 t.rt, .slice A t.ns.length c], .int .i64 x, .int .i64 (sd s)] w fun e w' => vO own S N w (yU t x s) e w' := by
 have HO := zA.mk ho; have HX := zA.mk hx; have H0 := zA.mk h0; clear ho
 obtain ⟨y, hy⟩ : ∃ y, y = kidA t x (!s) := ⟨_, rfl⟩
 rw [← hy] at hk
 have HY := zA.mk hy.symm
 have HYN := zA.mk (show y < (t.ns.length : Int) by rw [hy]; exact HO.out.kid _ _)
 have HK := zA.mk hk; clear hy hk
 obtain ⟨k, hkk⟩ : ∃ k, k = kidA t y s := ⟨_, rfl⟩
 have HKK := zA.mk hkk.symm
 have HKN := zA.mk (show k < (t.ns.length : Int) by rw [hkk]; exact HO.out.kid _ _)
 clear hkk
 obtain ⟨u, hu⟩ : ∃ u, u = upA t x := ⟨_, rfl⟩
 have HU := zA.mk hu.symm
 have HUN := zA.mk (show u < (t.ns.length : Int) by rw [hu]; exact HO.out.up _)
 clear hu
 obtain ⟨o, hon⟩ : ∃ o, o = onA t x := ⟨_, rfl⟩
 have HON := zA.mk hon.symm
 clear hon
 obtain ⟨t1, ht1⟩ : ∃ t1, t1 = zZ t x (!s) k := ⟨_, rfl⟩
 have HT1 := zA.mk ht1.symm
 have HL1 := zA.mk (show t1.ns.length = t.ns.length by rw [ht1, yI])
 clear ht1
 obtain ⟨t2, ht2⟩ : ∃ t2, t2 = zZ t1 u o y := ⟨_, rfl⟩
 have HT2 := zA.mk ht2.symm
 have HL2 := zA.mk (show t2.ns.length = t.ns.length by rw [ht2, yI]; exact HL1.out)
 clear ht2
 have HT3 := zA.mk (show zZ t2 y s x = yU t x s by rw [← HT2.out, ← HT1.out, ← HKK.out, ← HU.out, ← HON.out, ← HY.out]; rfl)
 obtain ⟨t3, ht3⟩ : ∃ t3, t3 = yU t x s := ⟨_, rfl⟩
 rw [← ht3] at HT3 ⊢
 clear ht3
 obtain ⟨ad, e1⟩ : ∃ ad, A = some ad := by
  obtain ⟨ad, _, e, _⟩ := Kd.C_get h.rd emp 0 (by omega) (by omega)
  exact ⟨ad, e⟩
 subst e1
 obtain ⟨z, hz⟩ : ∃ z, z = sd s := ⟨_, rfl⟩
 rw [← hz]
 obtain ⟨zn, hzn⟩ : ∃ zn, zn = sd (!s) := ⟨_, rfl⟩
 have HZ := zA.mk hz.symm
 have HZN := zA.mk hzn.symm
 have hz2 : IntKind.i64.wrap (1 - z) = zn := by rw [hz, hzn]; cases s <;> kernel_rfl
 have hz3 : wrap64 (1 - z) = zn := by rw [hz, hzn]; cases s <;> kernel_rfl
 have hz4 : (zn != z) = true := by rw [hz, hzn]; cases s <;> rfl
 clear hz hzn
 have SB := zA.mk (Sb.start h hS hN)
 have HL := zA.mk hl; clear h hS hN hl
 go_enter Tryd.func70, Tryd.ntmps70
 go_upto_region 1 with (fail)
 generalize (w.alloc (.cells #[.int .i64 t.rt, .slice (some ad) t.ns.length c] 24)).alloc (.cells #[.int .i64 0, .slice none 0 0] 24) = W1 at SB ⊢
 have a0 := SB.out.a0; have a1 := SB.out.a1; have f0 := SB.out.f 0; have f1 := SB.out.f 1; have y0 := SB.out.y0; have y1 := SB.out.y1; have yf0 := SB.out.yf 0; have yf1 := SB.out.yf 1
 go_upto_region 2 with ((go_at_call_of 38 (Value.int IntKind.i64 x); (first | (with_reducible refine (qV (t := t) _ c SB.out.tb.tv.rd x H0.out HX.out (!s) zn HZN.out y HY.out).mono ?_; rintro e wq ⟨rfl, hB⟩) | (replace SB := zA.mk SB.out.drew; with_reducible refine (qV (t := t) _ c SB.out.tb.tv.rd x H0.out HX.out (!s) zn HZN.out y HY.out).mono ?_; rintro e wq ⟨rfl, hB⟩)); replace SB := zA.mk (SB.out.below hB); replace a0 := SB.out.a0; replace a1 := SB.out.a1; replace f0 := SB.out.f 0; replace f1 := SB.out.f 1; replace y0 := SB.out.y0; replace y1 := SB.out.y1; replace yf0 := SB.out.yf 0; replace yf1 := SB.out.yf 1; clear hB))
 obtain ⟨d0, d1, d2, d3, d4, d5⟩ := kH SB.out.tb.tv.rd x H0.out HX.out
 rw [HU.out] at d5
 clear d0 d1 d2 d3 d4
 go_upto_region 4 with ((go_at_call 51; (first | (with_reducible refine (jX (t := t) _ c SB.out.tb.tv.rd HO.out x H0.out HX.out (sd o) (by rw [HON.out])).mono ?_; rintro e wq ⟨rfl, hB⟩) | (replace SB := zA.mk SB.out.drew; with_reducible refine (jX (t := t) _ c SB.out.tb.tv.rd HO.out x H0.out HX.out (sd o) (by rw [HON.out])).mono ?_; rintro e wq ⟨rfl, hB⟩)); replace SB := zA.mk (SB.out.below hB); replace a0 := SB.out.a0; replace a1 := SB.out.a1; replace f0 := SB.out.f 0; replace f1 := SB.out.f 1; replace y0 := SB.out.y0; replace y1 := SB.out.y1; replace yf0 := SB.out.yf 0; replace yf1 := SB.out.yf 1; clear hB))
 clear d5
 refine jQ (n := 10) (S := fun w' => w'.cell? ⟨w.heap.size, 0, none⟩ = some (.int .i64 t.rt) ∧ w'.cell? ⟨w.heap.size, 1, none⟩ = some (.slice (some ad) t.ns.length c)) (ds := [9]) #[false, false, false, false, false, false, false, false, false, false] (by kernel_rfl) rfl rfl ⟨SB.out.drew.a0, SB.out.drew.a1⟩ (fun hHeld => ?_)
 replace SB := zA.mk SB.out.drew
 clear a0 a1 f0 f1 y0 y1 yf0 yf1
 generalize World.drew _ = V0 at SB hHeld ⊢
 have a0 := SB.out.a0; have a1 := SB.out.a1; have f0 := SB.out.f 0; have f1 := SB.out.f 1; have y0 := SB.out.y0; have y1 := SB.out.y1; have yf0 := SB.out.yf 0; have yf1 := SB.out.yf 1
 refine x9 (i := 0) (N := some 24) (v := ?_) (a' := ?_) #[true, false, false, false, false, false, false, false, false, false] rfl rfl (by kernel_rfl) (fun _ _ _ h => h) (Or.inl ⟨by rfl, ?_⟩) hHeld ?_ ?_
 rotate_left
 ·rintro w' ⟨s0, s1⟩
  go_simp
  with_reducible rfl
 rotate_left
 ·(simp only [Act.put, List.setIfInBounds_toArray, List.set_cons_zero, List.set_cons_succ, zU, zV]; rfl)
 refine yB (i := 1) (N := some 25) (v := ?_) (a' := ?_) #[true, true, false, false, false, false, false, false, false, false] rfl rfl (by kernel_rfl) (fun _ _ _ h => h) (Or.inl ⟨by rfl, ?_⟩) ?_ ?_
 rotate_left
 ·intro w'
  go_simp
  with_reducible rfl
 rotate_left
 ·(simp only [Act.put, List.setIfInBounds_toArray, List.set_cons_zero, List.set_cons_succ, zU, zV]; rfl)
 refine yB (i := 2) (N := some 26) (v := ?_) (a' := ?_) #[true, true, true, false, false, false, false, false, false, false] rfl rfl (by kernel_rfl) (fun _ _ _ h => h) (Or.inl ⟨by rfl, ?_⟩) ?_ ?_
 rotate_left
 ·intro w'
  go_simp
  with_reducible rfl
 rotate_left
 ·(simp only [Act.put, List.setIfInBounds_toArray, List.set_cons_zero, List.set_cons_succ, zU, zV]; rfl)
 refine yB (i := 3) (N := some 27) (v := ?_) (a' := ?_) #[true, true, true, true, false, false, false, false, false, false] rfl rfl (by kernel_rfl) (fun _ _ _ h => h) (Or.inl ⟨by rfl, ?_⟩) ?_ ?_
 rotate_left
 ·intro w'
  go_simp
  with_reducible rfl
 rotate_left
 ·(simp only [Act.put, List.setIfInBounds_toArray, List.set_cons_zero, List.set_cons_succ, zU, zV]; rfl)
 refine x9 (i := 4) (N := some 28) (v := ?_) (a' := ?_) #[true, true, true, true, true, false, false, false, false, false] rfl rfl (by kernel_rfl) (fun _ _ _ h => h) (Or.inl ⟨by rfl, ?_⟩) hHeld ?_ ?_
 rotate_left
 ·rintro w' ⟨s0, s1⟩
  go_simp
  with_reducible rfl
 rotate_left
 ·(simp only [Act.put, List.setIfInBounds_toArray, List.set_cons_zero, List.set_cons_succ, zU, zV]; rfl)
 refine yB (i := 5) (N := some 29) (v := ?_) (a' := ?_) #[true, true, true, true, true, true, false, false, false, false] rfl rfl (by kernel_rfl) (fun _ _ _ h => h) (Or.inl ⟨by rfl, ?_⟩) ?_ ?_
 rotate_left
 ·intro w'
  go_simp
  with_reducible rfl
 rotate_left
 ·(simp only [Act.put, List.setIfInBounds_toArray, List.set_cons_zero, List.set_cons_succ, zU, zV]; rfl)
 refine yB (i := 6) (N := some 30) (v := ?_) (a' := ?_) #[true, true, true, true, true, true, true, false, false, false] rfl rfl (by kernel_rfl) (fun _ _ _ h => h) (Or.inl ⟨by rfl, ?_⟩) ?_ ?_
 rotate_left
 ·intro w'
  go_simp
  with_reducible rfl
 rotate_left
 ·(simp only [Act.put, List.setIfInBounds_toArray, List.set_cons_zero, List.set_cons_succ, zU, zV]; rfl)
 refine one_ (i := 7) (N := some 31) #[true, true, true, true, true, true, true, true, false, false] rfl rfl (by kernel_rfl) (by decide) (fun K hK => ?_)
 refine qF Tryd.func38 (by kernel_rfl) rfl #[.agg #[.int .i64 t.rt, .slice (some ad) t.ns.length c], .int .i64 y, .int .i64 z] (by rfl) rfl rfl (by (try simp only [List.map_toArray, List.map_cons, List.map_nil]); first | done | rfl) ?_
 with_reducible refine (qV (t := t) _ c SB.out.tb.tv.rd y HK.out HYN.out s z HZ.out k HKK.out).mono ?_
 rintro e wq ⟨rfl, hB⟩
 refine ⟨_, rfl, ?_⟩
 replace SB := zA.mk (SB.out.below hB); replace a0 := SB.out.a0; replace a1 := SB.out.a1; replace f0 := SB.out.f 0; replace f1 := SB.out.f 1; replace y0 := SB.out.y0; replace y1 := SB.out.y1; replace yf0 := SB.out.yf 0; replace yf1 := SB.out.yf 1
 clear hB
 refine hK.out _ _ ⟨SB.out.a0, SB.out.a1⟩ (fun hHeld => ?_)
 clear hK K
 refine xA (a' := ?_) ?_ ?_
 rotate_left
 ·(show Act.put _ (some 31) _ = _; (simp only [Act.put, List.setIfInBounds_toArray, List.set_cons_zero, List.set_cons_succ, zU, zV]; rfl))
 refine one_ (i := 8) (N := some 32) #[true, true, true, true, true, true, true, true, true, false] rfl rfl (by kernel_rfl) (by decide) (fun K hK => ?_)
 refine qF Tryd.func41 (by kernel_rfl) rfl #[.agg #[.int .i64 t.rt, .slice (some ad) t.ns.length c], .int .i64 x, .int .i64 zn, .int .i64 k] (by rfl) rfl rfl (by (try simp only [List.map_toArray, List.map_cons, List.map_nil]); first | done | rfl) ?_
 with_reducible refine (qZ (own := own) (S := S) (N := N) (t := t) _ c SB.out.tb.tv SB.out.sS SB.out.sN HL.out x HX.out (!s) zn HZN.out k HKN.out).mono ?_
 rintro e wq ⟨A1, c1, rfl, hTq, hB⟩
 refine ⟨_, rfl, ?_⟩
 rw [HT1.out] at hTq
 have TV := zA.mk hTq
 replace SB := zA.mk (SB.out.below hB); replace a0 := SB.out.a0; replace a1 := SB.out.a1; replace f0 := SB.out.f 0; replace f1 := SB.out.f 1; replace y0 := SB.out.y0; replace y1 := SB.out.y1; replace yf0 := SB.out.yf 0; replace yf1 := SB.out.yf 1
 rw [HT1.out]
 clear hTq hB
 refine hK.out _ _ ⟨SB.out.a0, SB.out.a1⟩ (fun hHeld => ?_)
 clear hK K
 refine xA (a' := ?_) ?_ ?_
 rotate_left
 ·(show Act.put _ (some 32) _ = _; (simp only [Act.put, List.setIfInBounds_toArray, List.set_cons_zero, List.set_cons_succ, zU, zV]; rfl))
 refine last_ (i := 9) (N := none) #[true, true, true, true, true, true, true, true, true, true] rfl rfl (by kernel_rfl) (by decide) (fun K hK => ?_)
 refine zab (w1 := ?_) (by rfl) rfl ?_ ?_
 rotate_left
 ·go_simp
  rfl
 refine hK.out _ _ ?_
 clear hK K
 refine vJ (by kernel_rfl) ?_
 replace SB := zA.mk (SB.out.store TV.out)
 clear a0 a1 f0 f1 y0 y1 yf0 yf1
 generalize World.setCell _ _ _ = V1 at SB ⊢
 clear TV
 have a0 := SB.out.a0; have a1 := SB.out.a1; have f0 := SB.out.f 0; have f1 := SB.out.f 1; have y0 := SB.out.y0; have y1 := SB.out.y1; have yf0 := SB.out.yf 0; have yf1 := SB.out.yf 1
 go_upto_region 5 with (fail)
 go_upto_region 6 with ((go_at_call 41; (first | (with_reducible refine (qZ (own := own) (S := S) (N := N) (t := t1) A1 c1 SB.out.tb.tv SB.out.sS SB.out.sN (by rw [HL1.out]; exact HL.out) u (by rw [HL1.out]; exact HUN.out) o (sd o) rfl y (by rw [HL1.out]; exact HYN.out)).mono ?_; rintro e wq ⟨A2, c2, rfl, hTq, hB⟩) | (replace SB := zA.mk SB.out.drew; with_reducible refine (qZ (own := own) (S := S) (N := N) (t := t1) A1 c1 SB.out.tb.tv SB.out.sS SB.out.sN (by rw [HL1.out]; exact HL.out) u (by rw [HL1.out]; exact HUN.out) o (sd o) rfl y (by rw [HL1.out]; exact HYN.out)).mono ?_; rintro e wq ⟨A2, c2, rfl, hTq, hB⟩)); rw [HT2.out] at hTq; have TV := zA.mk hTq; replace SB := zA.mk (SB.out.below hB); replace a0 := SB.out.a0; replace a1 := SB.out.a1; replace f0 := SB.out.f 0; replace f1 := SB.out.f 1; replace y0 := SB.out.y0; replace y1 := SB.out.y1; replace yf0 := SB.out.yf 0; replace yf1 := SB.out.yf 1; rw [HT2.out]; clear hTq hB))
 replace SB := zA.mk (SB.out.store TV.out)
 clear a0 a1 f0 f1 y0 y1 yf0 yf1
 generalize World.setCell _ _ _ = V2 at SB ⊢
 clear TV
 have a0 := SB.out.a0; have a1 := SB.out.a1; have f0 := SB.out.f 0; have f1 := SB.out.f 1; have y0 := SB.out.y0; have y1 := SB.out.y1; have yf0 := SB.out.yf 0; have yf1 := SB.out.yf 1
 go_wp2_with (go_at_call 41; (first | (with_reducible refine (qZ (own := own) (S := S) (N := N) (t := t2) A2 c2 SB.out.tb.tv SB.out.sS SB.out.sN (by rw [HL2.out]; exact HL.out) y (by rw [HL2.out]; exact HYN.out) s z HZ.out x (by rw [HL2.out]; exact HX.out)).mono ?_; rintro e wq ⟨A3, c3, rfl, hTq, hB⟩) | (replace SB := zA.mk SB.out.drew; with_reducible refine (qZ (own := own) (S := S) (N := N) (t := t2) A2 c2 SB.out.tb.tv SB.out.sS SB.out.sN (by rw [HL2.out]; exact HL.out) y (by rw [HL2.out]; exact HYN.out) s z HZ.out x (by rw [HL2.out]; exact HX.out)).mono ?_; rintro e wq ⟨A3, c3, rfl, hTq, hB⟩)); rw [HT3.out] at hTq; have TV := zA.mk hTq; replace SB := zA.mk (SB.out.below hB); replace a0 := SB.out.a0; replace a1 := SB.out.a1; replace f0 := SB.out.f 0; replace f1 := SB.out.f 1; replace y0 := SB.out.y0; replace y1 := SB.out.y1; replace yf0 := SB.out.yf 0; replace yf1 := SB.out.yf 1; rw [HT3.out]; clear hTq hB)
 refine bodyPost_ret (xP (cs := #[.int .i64 (t3).rt, .slice A3 (t3).ns.length c3]) rfl _ _ (w.heap.size + 1) 24 (0, 0) _ rfl (jZ SB.out.zb rfl _ _) Tryd.underlying24 rfl (by kernel_rfl)) rfl ?_
 exact SB.out.fin TV.out
theorem jW {own : Bool} {S N : Nat} (A : Option Addr) (c : Nat) (h : Tv own S N w A c t.ns) (hS : S ≤ w.heap.size) (hN : N ≤ w.heap.size) (hl : t.ns.length ≤ 1000000) (ho : Ok t) (x : Int) (h0 : 0 ≤ x) (hx : x < t.ns.length) (s : Bool) (z : Int) (hz : sd s = z) (hk : 0 ≤ kidA t x (!s)) :
  Calls Tryd.prog 70 #[.agg #[.int .i64 t.rt, .slice A t.ns.length c], .int .i64 x, .int .i64 z] w fun e w' => vO own S N w (yU t x s) e w' := by
 subst hz
 exact rturn_ A c h hS hN hl ho x h0 hx s hk
end Go.Proofs.YtfapmcpmfeigbaaDoor.Tm
