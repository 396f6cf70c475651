/- Parts of the proof, joined: Rm3. -/
import Derived.Test.YtfapmcpmfeigbaaDoorUD21
import Derived.StillTailTactics
namespace Go.Proofs.YtfapmcpmfeigbaaDoor.Tm
open Go.RowKit Go Go.Proofs Go.Proofs.YtfapmcpmfeigbaaDoor Go.Proofs.YtfapmcpmfeigbaaDoor.Tr Go.Proofs.YtfapmcpmfeigbaaDoorW.PrintWords Go.Proofs.YtfapmcpmfeigbaaDoorW.PrintLast Go.Proofs.YtfapmcpmfeigbaaDoorW.PrintMore
set_option linter.unusedVariables false
set_option linter.unusedSimpArgs false
variable {w : World} {t : St}
theorem up_turn {t : St} {x : Int} (s : Bool) (h0 : 0 ≤ x) (hx : x < t.ns.length) : upA (yU t x s) x = kidA t x (!s) := by
 unfold yU
 have hlen : (zZ (zZ t x (!s) (kidA t (kidA t x (!s)) s)) (gn t x.toNat).u (onA t x) (kidA t x (!s))).ns.length = t.ns.length := by rw [yI, yI]
 generalize zZ (zZ t x (!s) (kidA t (kidA t x (!s)) s)) (gn t x.toNat).u (onA t x) (kidA t x (!s)) = t2 at hlen
 unfold zZ jJ
 rw [if_pos h0]
 unfold upA
 rw [wF _ _ _ _ (by rw [jC, hlen]; omega), if_pos rfl]
structure RRel (own : Bool) (S N : Nat) (w : World) (n : Nat) (t' : St) (vx : Value) (wr : World) (k : Nat) : Prop where mk ::
 out : ∃ (T : St) (x : Int) (A : Option Addr) (c : Nat), vx = .int .i64 x ∧ Sb own S N w wr w.heap.size (w.heap.size + 1) T A c ∧ Ok T ∧ 0 ≤ x ∧ x < T.ns.length ∧ T.ns.length = n ∧ qC k T x = some t'
structure RRl (own : Bool) (S N : Nat) (w : World) (n : Nat) (t' : St) (vx : Value) (wr : World) : Prop where mk ::
 out : ∃ k, RRel own S N w n t' vx wr k
set_option maxHeartbeats 8000000 in
set_option maxRecDepth 100000 in
theorem rmend_ {own : Bool} {S N : Nat} (A : Option Addr) (c : Nat) (h : Tv own S N w A c t.ns) (hS : S ≤ w.heap.size) (hN : N ≤ w.heap.size) (hl : t.ns.length ≤ 1000000) (ho : Ok t) (x : Int) (h0 : 0 ≤ x) (hx : x < t.ns.length) (k0 : Nat) (t' : St) (hm : qC k0 t x = some t') :
  Calls Tryd.prog 43 #[.agg #[.int .i64 t.rt, .slice A t.ns.length c], .int .i64 x] w fun e w' => vO own S N w t' e w' := by
 have HO := zA.mk ho; have HM := zA.mk hm; have HX := zA.mk hx; have H0 := zA.mk h0; clear ho hm hx h0
 have SB := zA.mk (Sb.start h hS hN)
 have HL := zA.mk hl; clear h hS hN hl
 go_enter Tryd.func43, Tryd.ntmps43
 go_upto_region 1 with (fail)
 generalize (w.alloc (.cells #[.int .i64 t.rt, .slice A t.ns.length c] 24)).alloc (.cells #[.int .i64 0, .slice none 0 0] 24) = W1 at SB ⊢
 have a0 := SB.out.a0; have a1 := SB.out.a1; have f0 := SB.out.f 0; have f1 := SB.out.f 1; have y0 := SB.out.y0; have y1 := SB.out.y1; have yf0 := SB.out.yf 0; have yf1 := SB.out.yf 1
 clear a0 a1 f0 f1 y0 y1 yf0 yf1
 go_loopw [1] (fun vx wr => RRl own S N w t.ns.length t' vx wr) (fun vx wr => least (RRel own S N w t.ns.length t' vx wr))
 case atStart => exact ⟨k0, t, x, A, c, rfl, SB.out, HO.out, H0.out, HX.out, rfl, HM.out⟩
 case round =>
  clear SB HO HM HX H0
  have HR := xE hrel.out
  obtain ⟨hR1, hR2⟩ := HR
  generalize hlk : least _ = lk at hR1 ⊢
  obtain ⟨T, y, A, c, rfl, hSB, hO, hy0, hy, hn, hmd⟩ := hR1.out
  obtain ⟨m, rfl⟩ : ∃ m, lk = m + 1 := by
   cases lk with
   | zero => simp [qC] at hmd
   | succ m => exact ⟨m, rfl⟩
  have HLK := zA.mk hlk; clear hR2 hrel hR1
  rw [qC] at hmd
  have SB := zA.mk hSB; have O0 := zA.mk hO; have HY := zA.mk hy; have HY0 := zA.mk hy0
  have HN := zA.mk (show T.ns.length ≤ 1000000 by rw [hn]; exact HL.out)
  have HNN := zA.mk hn
  obtain ⟨ad, e1⟩ := SB.out.some (by omega)
  subst e1; clear hSB hO hn hlk
  obtain ⟨p, hpe⟩ : ∃ p, p = upA T y := ⟨_, rfl⟩
  have HP := zA.mk (show p < (T.ns.length : Int) by rw [hpe]; exact O0.out.up y)
  have HPE := zA.mk hpe.symm
  rw [← hpe] at hmd
  clear hpe
  have a0 := SB.out.a0; have a1 := SB.out.a1; have f0 := SB.out.f 0; have f1 := SB.out.f 1; have y0 := SB.out.y0; have y1 := SB.out.y1; have yf0 := SB.out.yf 0; have yf1 := SB.out.yf 1
  obtain ⟨d0, d1, d2, d3, d4, d5⟩ := kH SB.out.tb.tv.rd y HY0.out HY.out
  clear d0 d1 d2 d3 d4
  rw [HPE.out] at d5
  go_upto_region 1 with (fail)
  go_still_tail 7, (by kernel_rfl)
  change wpList _ _ _ _ _ (World.drew _)
  replace SB := zA.mk SB.out.drew
  clear a0 a1 f0 f1 y0 y1 yf0 yf1
  generalize World.drew _ = V0 at SB ⊢
  have a0 := SB.out.a0; have a1 := SB.out.a1; have f0 := SB.out.f 0; have f1 := SB.out.f 1; have y0 := SB.out.y0; have y1 := SB.out.y1; have yf0 := SB.out.yf 0; have yf1 := SB.out.yf 1
  clear d5
  cases hr : redA T p with
  | false =>
   have HR := zA.mk hr
   rw [hr, if_neg (by simp)] at hmd
   have HMD := zA.mk (Option.some.inj hmd)
   clear hr hmd
   go_upto_region 15 with ((go_at_call_of 58 (Value.int IntKind.i64 p); (first | (with_reducible refine (xW (t := T) (some ad) c SB.out.tb.tv.rd p HP.out false HR.out).mono ?_; rintro e wq ⟨rfl, hB⟩) | (replace SB := zA.mk SB.out.drew; with_reducible refine (xW (t := T) (some ad) c SB.out.tb.tv.rd p HP.out false HR.out).mono ?_; rintro e wq ⟨rfl, hB⟩)); replace SB := zA.mk (SB.out.below hB); replace a0 := SB.out.a0; replace a1 := SB.out.a1; replace f0 := SB.out.f 0; replace f1 := SB.out.f 1; replace y0 := SB.out.y0; replace y1 := SB.out.y1; replace yf0 := SB.out.yf 0; replace yf1 := SB.out.yf 1; clear hB))
   go_wp2_with (go_at_call 52; (first | (with_reducible refine (xB (own := own) (S := S) (N := N) (t := T) (some ad) c SB.out.tb.tv SB.out.sS SB.out.sN HN.out T.rt O0.out.rt false).mono ?_; rintro e wq ⟨A1, c1, rfl, hTq, hB⟩) | (replace SB := zA.mk SB.out.drew; with_reducible refine (xB (own := own) (S := S) (N := N) (t := T) (some ad) c SB.out.tb.tv SB.out.sS SB.out.sN HN.out T.rt O0.out.rt false).mono ?_; rintro e wq ⟨A1, c1, rfl, hTq, hB⟩)); rw [HMD.out] at hTq; have TV := zA.mk hTq; replace SB := zA.mk (SB.out.below hB); replace a0 := SB.out.a0; replace a1 := SB.out.a1; replace f0 := SB.out.f 0; replace f1 := SB.out.f 1; replace y0 := SB.out.y0; replace y1 := SB.out.y1; replace yf0 := SB.out.yf 0; replace yf1 := SB.out.yf 1; rw [HMD.out]; clear hTq hB)
   refine bodyPost_ret (xP (cs := #[.int .i64 (t').rt, .slice A1 (t').ns.length c1]) rfl _ _ (w.heap.size + 1) 24 (0, 0) _ rfl (jZ SB.out.zb rfl _ _) Tryd.underlying24 rfl (by kernel_rfl)) rfl ?_
   exact SB.out.fin TV.out
  | true =>
  have P0 := zA.mk (vY hr)
  have HR := zA.mk hr
  rw [hr, if_pos rfl] at hmd
  obtain ⟨gg, hge⟩ : ∃ q, q = upA T p := ⟨_, rfl⟩
  rw [← hge] at hmd
  have HGN := zA.mk (show gg < (T.ns.length : Int) by rw [hge]; exact O0.out.up p)
  have HGE := zA.mk hge.symm
  clear hge hr
  by_cases hg : 0 ≤ gg
  rotate_left
  ·rw [if_neg hg] at hmd
   cases hmd
  have GG0 := zA.mk hg
  rw [if_pos hg] at hmd
  clear hg
  go_upto_region 2 with ((go_at_call_of 58 (Value.int IntKind.i64 p); (first | (with_reducible refine (xW (t := T) (some ad) c SB.out.tb.tv.rd p HP.out true HR.out).mono ?_; rintro e wq ⟨rfl, hB⟩) | (replace SB := zA.mk SB.out.drew; with_reducible refine (xW (t := T) (some ad) c SB.out.tb.tv.rd p HP.out true HR.out).mono ?_; rintro e wq ⟨rfl, hB⟩)); replace SB := zA.mk (SB.out.below hB); replace a0 := SB.out.a0; replace a1 := SB.out.a1; replace f0 := SB.out.f 0; replace f1 := SB.out.f 1; replace y0 := SB.out.y0; replace y1 := SB.out.y1; replace yf0 := SB.out.yf 0; replace yf1 := SB.out.yf 1; clear hB))
  obtain ⟨d0, d1, d2, d3, d4, d5⟩ := kH SB.out.tb.tv.rd y HY0.out HY.out
  clear d0 d1 d2 d3 d4
  rw [HPE.out] at d5
  have d6 := d5
  obtain ⟨d0, d1, d2, d3, d4, d5⟩ := kH SB.out.tb.tv.rd p P0.out HP.out
  clear d0 d1 d2 d3 d4
  rw [HGE.out] at d5
  have hp1 := HP.out; have hp0 := P0.out
  go_upto_region 4 with (fail)
  clear d5 d6 hp1 hp0
  obtain ⟨s, hs⟩ : ∃ s, s = onA T p := ⟨_, rfl⟩
  rw [← hs] at hmd
  obtain ⟨z, hz⟩ : ∃ z, z = sd s := ⟨_, rfl⟩
  have HS := zA.mk (show sd (onA T p) = z by rw [hz, hs])
  clear hs
  obtain ⟨zn, hzn⟩ : ∃ zn, zn = sd (!s) := ⟨_, rfl⟩
  have HZ := zA.mk hz.symm
  have HZN := zA.mk hzn.symm
  have hz2 : IntKind.i64.wrap (1 - z) = zn := by rw [hz, hzn]; cases s <;> kernel_rfl
  have hz3 : wrap64 (1 - z) = zn := by rw [hz, hzn]; cases s <;> kernel_rfl
  have hz4 : (zn != z) = true := by rw [hz, hzn]; cases s <;> rfl
  clear hz hzn
  obtain ⟨u, hue⟩ : ∃ u, u = kidA T gg (!s) := ⟨_, rfl⟩
  rw [← hue] at hmd
  have HUE := zA.mk hue.symm
  have HUN := zA.mk (show u < (T.ns.length : Int) by rw [hue]; exact O0.out.kid _ _)
  clear hue
  go_upto_region 6 with (first | (go_at_call_of 51 (Value.int IntKind.i64 p); (first | (with_reducible refine (jX (t := T) (some ad) c SB.out.tb.tv.rd O0.out p P0.out HP.out z HS.out).mono ?_; rintro e wq ⟨rfl, hB⟩) | (replace SB := zA.mk SB.out.drew; with_reducible refine (jX (t := T) (some ad) c SB.out.tb.tv.rd O0.out p P0.out HP.out z HS.out).mono ?_; rintro e wq ⟨rfl, hB⟩)); replace SB := zA.mk (SB.out.below hB); replace a0 := SB.out.a0; replace a1 := SB.out.a1; replace f0 := SB.out.f 0; replace f1 := SB.out.f 1; replace y0 := SB.out.y0; replace y1 := SB.out.y1; replace yf0 := SB.out.yf 0; replace yf1 := SB.out.yf 1; clear hB) | (go_at_call_of 38 (Value.int IntKind.i64 gg); (first | (with_reducible refine (qV (t := T) (some ad) c SB.out.tb.tv.rd gg GG0.out HGN.out (!s) zn HZN.out u HUE.out).mono ?_; rintro e wq ⟨rfl, hB⟩) | (replace SB := zA.mk SB.out.drew; with_reducible refine (qV (t := T) (some ad) c SB.out.tb.tv.rd gg GG0.out HGN.out (!s) zn HZN.out u HUE.out).mono ?_; rintro e wq ⟨rfl, hB⟩)); replace SB := zA.mk (SB.out.below hB); replace a0 := SB.out.a0; replace a1 := SB.out.a1; replace f0 := SB.out.f 0; replace f1 := SB.out.f 1; replace y0 := SB.out.y0; replace y1 := SB.out.y1; replace yf0 := SB.out.yf 0; replace yf1 := SB.out.yf 1; clear hB))
  cases hru : redA T u with
  | true =>
   have HRU := zA.mk hru
   rw [hru, if_pos rfl] at hmd
   clear hru
   obtain ⟨T1, hh⟩ : ∃ q, q = zQ T false p := ⟨_, rfl⟩
   have HT1 := zA.mk hh.symm
   have LT1 := zA.mk (show T1.ns.length = T.ns.length by rw [hh]; rw [zP])
   clear hh
   obtain ⟨T2, hh⟩ : ∃ q, q = zQ T1 false u := ⟨_, rfl⟩
   have HT2 := zA.mk hh.symm
   have LT2 := zA.mk (show T2.ns.length = T.ns.length by rw [hh]; rw [zP, LT1.out])
   clear hh
   obtain ⟨T3, hh⟩ : ∃ q, q = zQ T2 true gg := ⟨_, rfl⟩
   have HT3 := zA.mk hh.symm
   have LT3 := zA.mk (show T3.ns.length = T.ns.length by rw [hh]; rw [zP, LT2.out])
   have OT3 := zA.mk (show Ok T3 by rw [hh]; exact by rw [← HT2.out, ← HT1.out]; exact ((O0.out.yE false p HP.out).yE false u (by rw [zP]; exact HUN.out)).yE true gg (by rw [zP, zP]; exact HGN.out))
   clear hh
   rw [HT1.out, HT2.out, HT3.out] at hmd
   have HMD := zA.mk hmd; clear hmd
   go_upto_region 7 with ((go_at_call_of 58 (Value.int IntKind.i64 u); (first | (with_reducible refine (xW (t := T) (some ad) c SB.out.tb.tv.rd u HUN.out true HRU.out).mono ?_; rintro e wq ⟨rfl, hB⟩) | (replace SB := zA.mk SB.out.drew; with_reducible refine (xW (t := T) (some ad) c SB.out.tb.tv.rd u HUN.out true HRU.out).mono ?_; rintro e wq ⟨rfl, hB⟩)); replace SB := zA.mk (SB.out.below hB); replace a0 := SB.out.a0; replace a1 := SB.out.a1; replace f0 := SB.out.f 0; replace f1 := SB.out.f 1; replace y0 := SB.out.y0; replace y1 := SB.out.y1; replace yf0 := SB.out.yf 0; replace yf1 := SB.out.yf 1; clear hB))
   go_upto_region 8 with (first | (go_at_call_of 52 (Value.int IntKind.i64 p); (first | (with_reducible refine (xB (own := own) (S := S) (N := N) (t := T) (some ad) c SB.out.tb.tv SB.out.sS SB.out.sN HN.out p HP.out false).mono ?_; rintro e wq ⟨A1, c1, rfl, hTq, hB⟩) | (replace SB := zA.mk SB.out.drew; with_reducible refine (xB (own := own) (S := S) (N := N) (t := T) (some ad) c SB.out.tb.tv SB.out.sS SB.out.sN HN.out p HP.out false).mono ?_; rintro e wq ⟨A1, c1, rfl, hTq, hB⟩)); rw [HT1.out] at hTq; have TV := zA.mk hTq; replace SB := zA.mk (SB.out.below hB); replace a0 := SB.out.a0; replace a1 := SB.out.a1; replace f0 := SB.out.f 0; replace f1 := SB.out.f 1; replace y0 := SB.out.y0; replace y1 := SB.out.y1; replace yf0 := SB.out.yf 0; replace yf1 := SB.out.yf 1; rw [HT1.out]; clear hTq hB) | (go_at_call_of 52 (Value.int IntKind.i64 u); (first | (with_reducible refine (xB (own := own) (S := S) (N := N) (t := T1) A1 c1 TV.out SB.out.sS SB.out.sN (by rw [LT1.out]; exact HN.out) u (by rw [LT1.out]; exact HUN.out) false).mono ?_; rintro e wq ⟨A2, c2, rfl, hTq, hB⟩) | (replace SB := zA.mk SB.out.drew; with_reducible refine (xB (own := own) (S := S) (N := N) (t := T1) A1 c1 TV.out SB.out.sS SB.out.sN (by rw [LT1.out]; exact HN.out) u (by rw [LT1.out]; exact HUN.out) false).mono ?_; rintro e wq ⟨A2, c2, rfl, hTq, hB⟩)); rw [HT2.out] at hTq; have TV := zA.mk hTq; replace SB := zA.mk (SB.out.below hB); replace a0 := SB.out.a0; replace a1 := SB.out.a1; replace f0 := SB.out.f 0; replace f1 := SB.out.f 1; replace y0 := SB.out.y0; replace y1 := SB.out.y1; replace yf0 := SB.out.yf 0; replace yf1 := SB.out.yf 1; rw [HT2.out]; clear hTq hB) | (go_at_call_of 52 (Value.int IntKind.i64 gg); (first | (with_reducible refine (xB (own := own) (S := S) (N := N) (t := T2) A2 c2 TV.out SB.out.sS SB.out.sN (by rw [LT2.out]; exact HN.out) gg (by rw [LT2.out]; exact HGN.out) true).mono ?_; rintro e wq ⟨A3, c3, rfl, hTq, hB⟩) | (replace SB := zA.mk SB.out.drew; with_reducible refine (xB (own := own) (S := S) (N := N) (t := T2) A2 c2 TV.out SB.out.sS SB.out.sN (by rw [LT2.out]; exact HN.out) gg (by rw [LT2.out]; exact HGN.out) true).mono ?_; rintro e wq ⟨A3, c3, rfl, hTq, hB⟩)); rw [HT3.out] at hTq; have TV := zA.mk hTq; replace SB := zA.mk (SB.out.below hB); replace a0 := SB.out.a0; replace a1 := SB.out.a1; replace f0 := SB.out.f 0; replace f1 := SB.out.f 1; replace y0 := SB.out.y0; replace y1 := SB.out.y1; replace yf0 := SB.out.yf 0; replace yf1 := SB.out.yf 1; rw [HT3.out]; clear hTq hB))
   replace SB := zA.mk (SB.out.store TV.out)
   clear a0 a1 f0 f1 y0 y1 yf0 yf1
   generalize World.setCell _ _ _ = V3 at SB ⊢
   clear TV
   have a0 := SB.out.a0; have a1 := SB.out.a1; have f0 := SB.out.f 0; have f1 := SB.out.f 1; have y0 := SB.out.y0; have y1 := SB.out.y1; have yf0 := SB.out.yf 0; have yf1 := SB.out.yf 1
   go_wp2
   have hq : RRel own S N w t.ns.length t' (Value.int IntKind.i64 gg) _ m := ⟨T3, gg, A3, c3, rfl, SB.out, OT3.out, GG0.out, by rw [LT3.out]; exact HGN.out, by rw [LT3.out]; exact HNN.out, HMD.out⟩
   refine ⟨⟨m, hq⟩, ?_⟩
   have h3 := (xE ⟨m, hq⟩).2 m hq
   exact Nat.lt_of_le_of_lt h3 (by rw [HLK.out]; omega)
  | false =>
   have HRU := zA.mk hru
   rw [hru, if_neg (by simp)] at hmd
   clear hru
   go_upto_region 9 with ((go_at_call_of 58 (Value.int IntKind.i64 u); (first | (with_reducible refine (xW (t := T) (some ad) c SB.out.tb.tv.rd u HUN.out false HRU.out).mono ?_; rintro e wq ⟨rfl, hB⟩) | (replace SB := zA.mk SB.out.drew; with_reducible refine (xW (t := T) (some ad) c SB.out.tb.tv.rd u HUN.out false HRU.out).mono ?_; rintro e wq ⟨rfl, hB⟩)); replace SB := zA.mk (SB.out.below hB); replace a0 := SB.out.a0; replace a1 := SB.out.a1; replace f0 := SB.out.f 0; replace f1 := SB.out.f 1; replace y0 := SB.out.y0; replace y1 := SB.out.y1; replace yf0 := SB.out.yf 0; replace yf1 := SB.out.yf 1; clear hB))
   by_cases ho1 : onA T y = s
   ·have HO1 := zA.mk (show sd (onA T y) = z by rw [ho1]; exact HZ.out)
    rw [if_pos ho1] at hmd
    clear ho1
    go_upto_region 13 with ((go_at_call_of 51 (Value.int IntKind.i64 y); (first | (with_reducible refine (jX (t := T) (some ad) c SB.out.tb.tv.rd O0.out y HY0.out HY.out z HO1.out).mono ?_; rintro e wq ⟨rfl, hB⟩) | (replace SB := zA.mk SB.out.drew; with_reducible refine (jX (t := T) (some ad) c SB.out.tb.tv.rd O0.out y HY0.out HY.out z HO1.out).mono ?_; rintro e wq ⟨rfl, hB⟩)); replace SB := zA.mk (SB.out.below hB); replace a0 := SB.out.a0; replace a1 := SB.out.a1; replace f0 := SB.out.f 0; replace f1 := SB.out.f 1; replace y0 := SB.out.y0; replace y1 := SB.out.y1; replace yf0 := SB.out.yf 0; replace yf1 := SB.out.yf 1; clear hB))
    obtain ⟨T2, hh⟩ : ∃ q, q = zQ T false p := ⟨_, rfl⟩
    have HT2 := zA.mk hh.symm
    have LT2 := zA.mk (show T2.ns.length = T.ns.length by rw [hh]; rw [zP])
    have OT2 := zA.mk (show Ok T2 by rw [hh]; exact O0.out.yE false p (by exact HP.out))
    clear hh
    obtain ⟨T3, hh⟩ : ∃ q, q = zQ T2 true gg := ⟨_, rfl⟩
    have HT3 := zA.mk hh.symm
    have LT3 := zA.mk (show T3.ns.length = T.ns.length by rw [hh]; rw [zP, LT2.out])
    have OT3 := zA.mk (show Ok T3 by rw [hh]; exact OT2.out.yE true gg (by rw [LT2.out]; exact HGN.out))
    clear hh
    rw [HT2.out, HT3.out, kT] at hmd
    by_cases hkg : 0 ≤ kidA T3 gg (!!s)
    rotate_left
    ·rw [if_neg hkg] at hmd
     cases hmd
    rw [if_pos hkg] at hmd
    have HKG := zA.mk hkg; clear hkg
    obtain ⟨T4, hh⟩ : ∃ q, q = yU T3 gg (!s) := ⟨_, rfl⟩
    have HT4 := zA.mk hh.symm
    have LT4 := zA.mk (show T4.ns.length = T.ns.length by rw [hh]; rw [xM, LT3.out])
    have OT4 := zA.mk (show Ok T4 by rw [hh]; exact OT3.out.turn gg (!s) (by rw [LT3.out]; exact HGN.out))
    clear hh
    rw [HT4.out] at hmd
    have HMD := zA.mk hmd; clear hmd
    go_upto_region 14 with (first | (go_at_call_of 52 (Value.int IntKind.i64 p); (first | (with_reducible refine (xB (own := own) (S := S) (N := N) (t := T) (some ad) c SB.out.tb.tv SB.out.sS SB.out.sN HN.out p HP.out false).mono ?_; rintro e wq ⟨A2, c2, rfl, hTq, hB⟩) | (replace SB := zA.mk SB.out.drew; with_reducible refine (xB (own := own) (S := S) (N := N) (t := T) (some ad) c SB.out.tb.tv SB.out.sS SB.out.sN HN.out p HP.out false).mono ?_; rintro e wq ⟨A2, c2, rfl, hTq, hB⟩)); rw [HT2.out] at hTq; have TV := zA.mk hTq; replace SB := zA.mk (SB.out.below hB); replace a0 := SB.out.a0; replace a1 := SB.out.a1; replace f0 := SB.out.f 0; replace f1 := SB.out.f 1; replace y0 := SB.out.y0; replace y1 := SB.out.y1; replace yf0 := SB.out.yf 0; replace yf1 := SB.out.yf 1; rw [HT2.out]; clear hTq hB) | (go_at_call_of 52 (Value.int IntKind.i64 gg); (first | (with_reducible refine (xB (own := own) (S := S) (N := N) (t := T2) A2 c2 TV.out SB.out.sS SB.out.sN (by rw [LT2.out]; exact HN.out) gg (by rw [LT2.out]; exact HGN.out) true).mono ?_; rintro e wq ⟨A3, c3, rfl, hTq, hB⟩) | (replace SB := zA.mk SB.out.drew; with_reducible refine (xB (own := own) (S := S) (N := N) (t := T2) A2 c2 TV.out SB.out.sS SB.out.sN (by rw [LT2.out]; exact HN.out) gg (by rw [LT2.out]; exact HGN.out) true).mono ?_; rintro e wq ⟨A3, c3, rfl, hTq, hB⟩)); rw [HT3.out] at hTq; have TV := zA.mk hTq; replace SB := zA.mk (SB.out.below hB); replace a0 := SB.out.a0; replace a1 := SB.out.a1; replace f0 := SB.out.f 0; replace f1 := SB.out.f 1; replace y0 := SB.out.y0; replace y1 := SB.out.y1; replace yf0 := SB.out.yf 0; replace yf1 := SB.out.yf 1; rw [HT3.out]; clear hTq hB))
    replace SB := zA.mk (SB.out.store TV.out)
    clear a0 a1 f0 f1 y0 y1 yf0 yf1
    generalize World.setCell _ _ _ = V3 at SB ⊢
    clear TV
    have a0 := SB.out.a0; have a1 := SB.out.a1; have f0 := SB.out.f 0; have f1 := SB.out.f 1; have y0 := SB.out.y0; have y1 := SB.out.y1; have yf0 := SB.out.yf 0; have yf1 := SB.out.yf 1
    go_upto_region 15 with ((go_at_call 70; (first | (with_reducible refine (jW (own := own) (S := S) (N := N) (t := T3) A3 c3 SB.out.tb.tv SB.out.sS SB.out.sN (by rw [LT3.out]; exact HN.out) OT3.out gg GG0.out (by rw [LT3.out]; exact HGN.out) (!s) zn HZN.out HKG.out).mono ?_; rintro e wq ⟨A4, c4, rfl, hTq, hB⟩) | (replace SB := zA.mk SB.out.drew; with_reducible refine (jW (own := own) (S := S) (N := N) (t := T3) A3 c3 SB.out.tb.tv SB.out.sS SB.out.sN (by rw [LT3.out]; exact HN.out) OT3.out gg GG0.out (by rw [LT3.out]; exact HGN.out) (!s) zn HZN.out HKG.out).mono ?_; rintro e wq ⟨A4, c4, rfl, hTq, hB⟩)); rw [HT4.out] at hTq; have TV := zA.mk hTq; replace SB := zA.mk (SB.out.below hB); replace a0 := SB.out.a0; replace a1 := SB.out.a1; replace f0 := SB.out.f 0; replace f1 := SB.out.f 1; replace y0 := SB.out.y0; replace y1 := SB.out.y1; replace yf0 := SB.out.yf 0; replace yf1 := SB.out.yf 1; rw [HT4.out]; clear hTq hB))
    replace SB := zA.mk (SB.out.store TV.out)
    clear a0 a1 f0 f1 y0 y1 yf0 yf1
    generalize World.setCell _ _ _ = V4 at SB ⊢
    clear TV
    have a0 := SB.out.a0; have a1 := SB.out.a1; have f0 := SB.out.f 0; have f1 := SB.out.f 1; have y0 := SB.out.y0; have y1 := SB.out.y1; have yf0 := SB.out.yf 0; have yf1 := SB.out.yf 1
    have hq : RRel own S N w t.ns.length t' (Value.int IntKind.i64 y) _ m := ⟨T4, y, A4, c4, rfl, SB.out, OT4.out, HY0.out, by rw [LT4.out]; exact HY.out, by rw [LT4.out]; exact HNN.out, HMD.out⟩
    refine ⟨⟨m, hq⟩, ?_⟩
    have h3 := (xE ⟨m, hq⟩).2 m hq
    exact Nat.lt_of_le_of_lt h3 (by rw [HLK.out]; omega)
   have HO1 := zA.mk (show sd (onA T y) = zn by rw [show onA T y = !s by cases h1 : onA T y <;> cases h2 : s <;> simp_all]; exact HZN.out)
   rw [if_neg ho1] at hmd
   clear ho1
   by_cases hkp : kidA T p (!s) = y
   rotate_left
   ·rw [if_neg hkp] at hmd
    cases hmd
   rw [if_pos hkp] at hmd
   have HKP := zA.mk hkp; clear hkp
   obtain ⟨T1, hh⟩ : ∃ q, q = yU T p s := ⟨_, rfl⟩
   have HT1 := zA.mk hh.symm
   have LT1 := zA.mk (show T1.ns.length = T.ns.length by rw [hh]; rw [xM])
   have OT1 := zA.mk (show Ok T1 by rw [hh]; exact O0.out.turn p s HP.out)
   clear hh
   rw [HT1.out] at hmd
   go_upto_region 11 with (first | (go_at_call_of 51 (Value.int IntKind.i64 y); (first | (with_reducible refine (jX (t := T) (some ad) c SB.out.tb.tv.rd O0.out y HY0.out HY.out zn HO1.out).mono ?_; rintro e wq ⟨rfl, hB⟩) | (replace SB := zA.mk SB.out.drew; with_reducible refine (jX (t := T) (some ad) c SB.out.tb.tv.rd O0.out y HY0.out HY.out zn HO1.out).mono ?_; rintro e wq ⟨rfl, hB⟩)); replace SB := zA.mk (SB.out.below hB); replace a0 := SB.out.a0; replace a1 := SB.out.a1; replace f0 := SB.out.f 0; replace f1 := SB.out.f 1; replace y0 := SB.out.y0; replace y1 := SB.out.y1; replace yf0 := SB.out.yf 0; replace yf1 := SB.out.yf 1; clear hB) | (go_at_call 70; (first | (with_reducible refine (jW (own := own) (S := S) (N := N) (t := T) (some ad) c SB.out.tb.tv SB.out.sS SB.out.sN HN.out O0.out p P0.out HP.out s z HZ.out (by rw [HKP.out]; exact HY0.out)).mono ?_; rintro e wq ⟨A1, c1, rfl, hTq, hB⟩) | (replace SB := zA.mk SB.out.drew; with_reducible refine (jW (own := own) (S := S) (N := N) (t := T) (some ad) c SB.out.tb.tv SB.out.sS SB.out.sN HN.out O0.out p P0.out HP.out s z HZ.out (by rw [HKP.out]; exact HY0.out)).mono ?_; rintro e wq ⟨A1, c1, rfl, hTq, hB⟩)); rw [HT1.out] at hTq; have TV := zA.mk hTq; replace SB := zA.mk (SB.out.below hB); replace a0 := SB.out.a0; replace a1 := SB.out.a1; replace f0 := SB.out.f 0; replace f1 := SB.out.f 1; replace y0 := SB.out.y0; replace y1 := SB.out.y1; replace yf0 := SB.out.yf 0; replace yf1 := SB.out.yf 1; rw [HT1.out]; clear hTq hB))
   replace SB := zA.mk (SB.out.store TV.out)
   clear a0 a1 f0 f1 y0 y1 yf0 yf1
   generalize World.setCell _ _ _ = V1 at SB ⊢
   clear TV
   have a0 := SB.out.a0; have a1 := SB.out.a1; have f0 := SB.out.f 0; have f1 := SB.out.f 1; have y0 := SB.out.y0; have y1 := SB.out.y1; have yf0 := SB.out.yf 0; have yf1 := SB.out.yf 1
   have HUP := zA.mk (show upA T1 p = y by rw [← HT1.out, up_turn s P0.out HP.out]; exact HKP.out)
   obtain ⟨ad1, e1⟩ := SB.out.some (by rw [LT1.out]; have := HP.out; have := P0.out; omega)
   subst e1
   obtain ⟨d0, d1, d2, d3, d4, d5⟩ := kH SB.out.tb.tv.rd p P0.out (by rw [LT1.out]; exact HP.out)
   clear d0 d1 d2 d3 d4
   rw [HUP.out] at d5
   have hp1 : p < (T1.ns.length : Int) := by rw [LT1.out]; exact HP.out
   have hp0 := P0.out
   go_upto_region 13 with (fail)
   clear d5 hp1 hp0
   obtain ⟨T2, hh⟩ : ∃ q, q = zQ T1 false y := ⟨_, rfl⟩
   have HT2 := zA.mk hh.symm
   have LT2 := zA.mk (show T2.ns.length = T.ns.length by rw [hh]; rw [zP, LT1.out])
   have OT2 := zA.mk (show Ok T2 by rw [hh]; exact OT1.out.yE false y (by rw [LT1.out]; exact HY.out))
   clear hh
   obtain ⟨T3, hh⟩ : ∃ q, q = zQ T2 true gg := ⟨_, rfl⟩
   have HT3 := zA.mk hh.symm
   have LT3 := zA.mk (show T3.ns.length = T.ns.length by rw [hh]; rw [zP, LT2.out])
   have OT3 := zA.mk (show Ok T3 by rw [hh]; exact OT2.out.yE true gg (by rw [LT2.out]; exact HGN.out))
   clear hh
   rw [HT2.out, HT3.out, kT] at hmd
   by_cases hkg : 0 ≤ kidA T3 gg (!!s)
   rotate_left
   ·rw [if_neg hkg] at hmd
    cases hmd
   rw [if_pos hkg] at hmd
   have HKG := zA.mk hkg; clear hkg
   obtain ⟨T4, hh⟩ : ∃ q, q = yU T3 gg (!s) := ⟨_, rfl⟩
   have HT4 := zA.mk hh.symm
   have LT4 := zA.mk (show T4.ns.length = T.ns.length by rw [hh]; rw [xM, LT3.out])
   have OT4 := zA.mk (show Ok T4 by rw [hh]; exact OT3.out.turn gg (!s) (by rw [LT3.out]; exact HGN.out))
   clear hh
   rw [HT4.out] at hmd
   have HMD := zA.mk hmd; clear hmd
   go_upto_region 14 with (first | (go_at_call_of 52 (Value.int IntKind.i64 y); (first | (with_reducible refine (xB (own := own) (S := S) (N := N) (t := T1) (some ad1) c1 SB.out.tb.tv SB.out.sS SB.out.sN (by rw [LT1.out]; exact HN.out) y (by rw [LT1.out]; exact HY.out) false).mono ?_; rintro e wq ⟨A2, c2, rfl, hTq, hB⟩) | (replace SB := zA.mk SB.out.drew; with_reducible refine (xB (own := own) (S := S) (N := N) (t := T1) (some ad1) c1 SB.out.tb.tv SB.out.sS SB.out.sN (by rw [LT1.out]; exact HN.out) y (by rw [LT1.out]; exact HY.out) false).mono ?_; rintro e wq ⟨A2, c2, rfl, hTq, hB⟩)); rw [HT2.out] at hTq; have TV := zA.mk hTq; replace SB := zA.mk (SB.out.below hB); replace a0 := SB.out.a0; replace a1 := SB.out.a1; replace f0 := SB.out.f 0; replace f1 := SB.out.f 1; replace y0 := SB.out.y0; replace y1 := SB.out.y1; replace yf0 := SB.out.yf 0; replace yf1 := SB.out.yf 1; rw [HT2.out]; clear hTq hB) | (go_at_call_of 52 (Value.int IntKind.i64 gg); (first | (with_reducible refine (xB (own := own) (S := S) (N := N) (t := T2) A2 c2 TV.out SB.out.sS SB.out.sN (by rw [LT2.out]; exact HN.out) gg (by rw [LT2.out]; exact HGN.out) true).mono ?_; rintro e wq ⟨A3, c3, rfl, hTq, hB⟩) | (replace SB := zA.mk SB.out.drew; with_reducible refine (xB (own := own) (S := S) (N := N) (t := T2) A2 c2 TV.out SB.out.sS SB.out.sN (by rw [LT2.out]; exact HN.out) gg (by rw [LT2.out]; exact HGN.out) true).mono ?_; rintro e wq ⟨A3, c3, rfl, hTq, hB⟩)); rw [HT3.out] at hTq; have TV := zA.mk hTq; replace SB := zA.mk (SB.out.below hB); replace a0 := SB.out.a0; replace a1 := SB.out.a1; replace f0 := SB.out.f 0; replace f1 := SB.out.f 1; replace y0 := SB.out.y0; replace y1 := SB.out.y1; replace yf0 := SB.out.yf 0; replace yf1 := SB.out.yf 1; rw [HT3.out]; clear hTq hB))
   replace SB := zA.mk (SB.out.store TV.out)
   clear a0 a1 f0 f1 y0 y1 yf0 yf1
   generalize World.setCell _ _ _ = V3 at SB ⊢
   clear TV
   have a0 := SB.out.a0; have a1 := SB.out.a1; have f0 := SB.out.f 0; have f1 := SB.out.f 1; have y0 := SB.out.y0; have y1 := SB.out.y1; have yf0 := SB.out.yf 0; have yf1 := SB.out.yf 1
   go_upto_region 15 with ((go_at_call 70; (first | (with_reducible refine (jW (own := own) (S := S) (N := N) (t := T3) A3 c3 SB.out.tb.tv SB.out.sS SB.out.sN (by rw [LT3.out]; exact HN.out) OT3.out gg GG0.out (by rw [LT3.out]; exact HGN.out) (!s) zn HZN.out HKG.out).mono ?_; rintro e wq ⟨A4, c4, rfl, hTq, hB⟩) | (replace SB := zA.mk SB.out.drew; with_reducible refine (jW (own := own) (S := S) (N := N) (t := T3) A3 c3 SB.out.tb.tv SB.out.sS SB.out.sN (by rw [LT3.out]; exact HN.out) OT3.out gg GG0.out (by rw [LT3.out]; exact HGN.out) (!s) zn HZN.out HKG.out).mono ?_; rintro e wq ⟨A4, c4, rfl, hTq, hB⟩)); rw [HT4.out] at hTq; have TV := zA.mk hTq; replace SB := zA.mk (SB.out.below hB); replace a0 := SB.out.a0; replace a1 := SB.out.a1; replace f0 := SB.out.f 0; replace f1 := SB.out.f 1; replace y0 := SB.out.y0; replace y1 := SB.out.y1; replace yf0 := SB.out.yf 0; replace yf1 := SB.out.yf 1; rw [HT4.out]; clear hTq hB))
   replace SB := zA.mk (SB.out.store TV.out)
   clear a0 a1 f0 f1 y0 y1 yf0 yf1
   generalize World.setCell _ _ _ = V4 at SB ⊢
   clear TV
   have a0 := SB.out.a0; have a1 := SB.out.a1; have f0 := SB.out.f 0; have f1 := SB.out.f 1; have y0 := SB.out.y0; have y1 := SB.out.y1; have yf0 := SB.out.yf 0; have yf1 := SB.out.yf 1
   have hq : RRel own S N w t.ns.length t' (Value.int IntKind.i64 p) _ m := ⟨T4, p, A4, c4, rfl, SB.out, OT4.out, P0.out, by rw [LT4.out]; exact HP.out, by rw [LT4.out]; exact HNN.out, HMD.out⟩
   refine ⟨⟨m, hq⟩, ?_⟩
   have h3 := (xE ⟨m, hq⟩).2 m hq
   exact Nat.lt_of_le_of_lt h3 (by rw [HLK.out]; omega)
end Go.Proofs.YtfapmcpmfeigbaaDoor.Tm
