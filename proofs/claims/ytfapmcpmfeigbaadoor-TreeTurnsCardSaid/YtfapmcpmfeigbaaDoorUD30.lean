/- Parts of the proof, joined: Rm12. -/
import Derived.Test.YtfapmcpmfeigbaaDoorUD26
import Derived.Test.YtfapmcpmfeigbaaDoorUD29
import Derived.Test.YtfapmcpmfeigbaaDoorUD19
import Derived.StillTailTactics
namespace Go.Proofs.YtfapmcpmfeigbaaDoor.Tm
open Go.RowKit Go Go.Proofs Go.Proofs.YtfapmcpmfeigbaaDoor Go.Proofs.YtfapmcpmfeigbaaDoor.Tr Go.Proofs.YtfapmcpmfeigbaaDoor.Tk Go.Proofs.YtfapmcpmfeigbaaDoorW.PrintWords Go.Proofs.YtfapmcpmfeigbaaDoorW.PrintLast Go.Proofs.YtfapmcpmfeigbaaDoorW.PrintMore
set_option linter.unusedVariables false
set_option linter.unusedSimpArgs false
variable {w : World} {t : St}
structure Jb (own : Bool) (S N : Nat) (w0 w : World) (g k z : Nat) (t : St) (A : Option Addr) (c : Nat) (n : Nd) : Prop where mk ::
 sb : Sb own S N w0 w g z t A c
 kk : w.heap[k]? = some (.cells #[.bool n.inn, .bool n.red, .int .u64 n.v, .int .i64 n.l, .int .i64 n.r, .int .i64 n.u] 57 (0, 0))
 ne : k ≠ g
section
variable {own : Bool} {S N : Nat} {w0 w1 : World} {g k z : Nat} {A : Option Addr} {c : Nat} {n : Nd}
theorem Jb.below (h : Jb own S N w0 w g k z t A c n) (hb : Below w.heap.size w w1) : Jb own S N w0 w1 g k z t A c n := ⟨h.sb.below hb, zK h.kk hb, h.ne⟩
theorem Jb.drew (h : Jb own S N w0 w g k z t A c n) : Jb own S N w0 w.drew g k z t A c n := h.below (Below.drew (Below.refl _ _))
theorem Jb.tb (h : Jb own S N w0 w g k z t A c n) : Tb own S N w g t A c := h.sb.tb
theorem Jb.sS (h : Jb own S N w0 w g k z t A c n) : S ≤ w.heap.size := h.sb.sS
theorem Jb.sN (h : Jb own S N w0 w g k z t A c n) : N ≤ w.heap.size := h.sb.sN
theorem Jb.a0 (h : Jb own S N w0 w g k z t A c n) : w.cell? ⟨g, 0, none⟩ = some (.int .i64 t.rt) := h.sb.a0
theorem Jb.a1 (h : Jb own S N w0 w g k z t A c n) : w.cell? ⟨g, 1, none⟩ = some (.slice A t.ns.length c) := h.sb.a1
theorem Jb.f (h : Jb own S N w0 w g k z t A c n) (i : Nat) : w.frozen? ⟨g, i, none⟩ = false := h.sb.f i
theorem Jb.y0 (h : Jb own S N w0 w g k z t A c n) : w.cell? ⟨z, 0, none⟩ = some (.int .i64 0) := h.sb.y0
theorem Jb.y1 (h : Jb own S N w0 w g k z t A c n) : w.cell? ⟨z, 1, none⟩ = some (.slice none 0 0) := h.sb.y1
theorem Jb.yf (h : Jb own S N w0 w g k z t A c n) (i : Nat) : w.frozen? ⟨z, i, none⟩ = false := h.sb.yf i
theorem Jb.v1 (h : Jb own S N w0 w g k z t A c n) : w.cell? ⟨k, 1, none⟩ = some (.bool n.red) := (zF h.kk 1).trans rfl
theorem Jb.v3 (h : Jb own S N w0 w g k z t A c n) : w.cell? ⟨k, 3, none⟩ = some (.int .i64 n.l) := (zF h.kk 3).trans rfl
theorem Jb.v4 (h : Jb own S N w0 w g k z t A c n) : w.cell? ⟨k, 4, none⟩ = some (.int .i64 n.r) := (zF h.kk 4).trans rfl
theorem Jb.v5 (h : Jb own S N w0 w g k z t A c n) : w.cell? ⟨k, 5, none⟩ = some (.int .i64 n.u) := (zF h.kk 5).trans rfl
theorem Jb.store {own2 : Bool} {t1 : St} {A1 : Option Addr} {c1 : Nat} (h : Jb own S N w0 w g k z t A c n) (hv : Tv own2 S N w A1 c1 t1.ns) : Jb own2 S N w0 ((w.setCell ⟨g, 0, none⟩ (.int .i64 t1.rt)).setCell ⟨g, 1, none⟩ (.slice A1 t1.ns.length c1)) g k z t1 A1 c1 n :=
 ⟨h.sb.store hv, set2_far h.kk h.ne _ _, h.ne⟩
theorem Sb.finT {t1 : St} {A1 : Option Addr} {c1 : Nat} {m : Int} (h : Sb own S w0.heap.size w0 w g z t A c) (hv : Tv true S w0.heap.size w A1 c1 t1.ns) :
  kE w0 (t1, m) (.returned (.tuple #[.agg #[.int .i64 t1.rt, .slice A1 t1.ns.length c1], .int .i64 m])) ((w.setCell ⟨z, 0, none⟩ (.int .i64 t1.rt)).setCell ⟨z, 1, none⟩ (.slice A1 t1.ns.length c1)) :=
 ⟨_, rfl, ((hv.set h.zb (by decide) (Nat.le_trans h.s0 h.z0) 0 _).set (qI h.zb 0 _) (by decide) (Nat.le_trans h.s0 h.z0) 1 _).toR, kV h.bb h.z0 _ _⟩
theorem Sb.nilT {m : Int} (h : Sb own S N w0 w g z t A c) : kE w0 (⟨[], 0⟩, m) (.returned (.tuple #[.agg #[.int .i64 0, .slice none 0 0], .int .i64 m])) ((w.setCell ⟨z, 0, none⟩ (.int .i64 0)).setCell ⟨z, 1, none⟩ (.slice none 0 0)) :=
 kE.nil (kV h.bb h.z0 _ _)
end
theorem leftA_lt (ho : Ok t) : ∀ (k : Nat) {y yy : Int}, 0 ≤ y → y < t.ns.length → jR k t y = some yy → 0 ≤ yy ∧ yy < t.ns.length
 | 0, y, yy, _, _, h => by cases h
 | k + 1, y, yy, h0, h1, h => by
  rw [jR] at h
  split at h
  ·rename_i h2
   exact leftA_lt ho k h2 (ho.kid _ _) h
  ·obtain rfl := Option.some.inj h
   exact ⟨h0, h1⟩
structure YRel (t : St) (yy : Int) (W : World) (vy : Value) (wr : World) (k : Nat) : Prop where mk ::
 out : ∃ y : Int, vy = .int .i64 y ∧ 0 ≤ y ∧ y < t.ns.length ∧ jR k t y = some yy ∧ wr = W
structure YRl (t : St) (yy : Int) (W : World) (vy : Value) (wr : World) : Prop where mk ::
 out : ∃ k, YRel t yy W vy wr k
set_option maxHeartbeats 16000000 in
set_option maxRecDepth 100000 in
theorem rDelete_ (A : Option Addr) (c : Nat) (mn : Int) (ki : Int) (r : St × Int) (hr : kn.C w A t.ns.length t.ns) (hlc : t.ns.length ≤ c) (hl : t.ns.length ≤ 1000000) (hf : delF t mn ki = some r) :
  Calls Tryd.prog 14 #[.agg #[.int .i64 t.rt, .slice A t.ns.length c], .int .u64 mn, .int .i64 ki] w fun e w' => kE w r e w' := by
 have HF := zA.mk hf
 have SB := zA.mk (Sb.start (N := w.heap.size) (Tv.of hr hlc (Nat.le_refl w.heap.size)) (Nat.le_refl _) (Nat.le_refl _))
 have HL := zA.mk hl; clear hr hl hf hlc
 go_enter Tryd.func14, Tryd.ntmps14
 go_upto_region 1 with (fail)
 generalize (w.alloc (.cells #[.int .i64 t.rt, .slice A t.ns.length c] 24)).alloc (.cells #[.int .i64 0, .slice none 0 0] 24) = W1 at SB ⊢
 have a0 := SB.out.a0; have a1 := SB.out.a1; have f0 := SB.out.f 0; have f1 := SB.out.f 1; have y0 := SB.out.y0; have y1 := SB.out.y1; have yf0 := SB.out.yf 0; have yf1 := SB.out.yf 1
 cases hri : qO t mn with
 | false =>
  have hF := HF.out
  rw [delF, hri, if_pos rfl] at hF
  obtain rfl := Option.some.inj hF; have HRI := zA.mk hri; clear hF hri HF
  go_wp2_with (go_at_call 19; with_reducible refine (zbY (t := t) A c mn SB.out.tb.tv.rd HL.out).mono ?_; rintro e wq ⟨rfl, hB⟩; rw [HRI.out]; replace SB := zA.mk (SB.out.below hB); replace a0 := SB.out.a0; replace a1 := SB.out.a1; replace f0 := SB.out.f 0; replace f1 := SB.out.f 1; replace y0 := SB.out.y0; replace y1 := SB.out.y1; replace yf0 := SB.out.yf 0; replace yf1 := SB.out.yf 1; clear hB)
  refine bodyPost_ret (yL (cs := #[.int .i64 0, .slice none 0 0]) rfl _ _ (w.heap.size + 1) 24 (0, 0) _ rfl (set2 SB.out.zb rfl _ _) Tryd.underlying24 rfl (by kernel_rfl)) rfl ?_
  exact SB.out.nilT
 | true =>
 have HRI := zA.mk hri
 have O0 := zA.mk (zam hri)
 have hF := HF.out
 rw [delF, hri, if_neg (by simp)] at hF
 clear hri HF
 go_upto_region 3 with ((go_at_call 19; with_reducible refine (zbY (t := t) A c mn SB.out.tb.tv.rd HL.out).mono ?_; rintro e wq ⟨rfl, hB⟩; rw [HRI.out]; replace SB := zA.mk (SB.out.below hB); replace a0 := SB.out.a0; replace a1 := SB.out.a1; replace f0 := SB.out.f 0; replace f1 := SB.out.f 1; replace y0 := SB.out.y0; replace y1 := SB.out.y1; replace yf0 := SB.out.yf 0; replace yf1 := SB.out.yf 1; clear hB))
 by_cases hbad : ki < 0 ∨ (t.ns.length : Int) ≤ ki
 ·rw [if_pos hbad] at hF
  obtain rfl := Option.some.inj hF; clear hF
  by_cases b1 : ki < 0
  ·clear hbad
   go_wp2
   refine bodyPost_ret (yL (cs := #[.int .i64 0, .slice none 0 0]) rfl _ _ (w.heap.size + 1) 24 (0, 0) _ rfl (set2 SB.out.zb rfl _ _) Tryd.underlying24 rfl (by kernel_rfl)) rfl ?_
   exact SB.out.nilT
  have b11 : decide (ki < 0) = false := decide_eq_false b1
  have b2 := hbad.resolve_left b1
  clear hbad
  go_wp2
  refine bodyPost_ret (yL (cs := #[.int .i64 0, .slice none 0 0]) rfl _ _ (w.heap.size + 1) 24 (0, 0) _ rfl (set2 SB.out.zb rfl _ _) Tryd.underlying24 rfl (by kernel_rfl)) rfl ?_
  exact SB.out.nilT
 rw [if_neg hbad] at hF
 simp only [not_or] at hbad
 obtain ⟨b1, b2⟩ := hbad
 have b11 : decide (ki < 0) = false := decide_eq_false b1
 have b12 : decide ((t.ns.length : Int) ≤ ki) = false := decide_eq_false b2
 have g1 : 0 ≤ ki := by omega
 have g2 : ki < (t.ns.length : Int) := by omega
 have G1 := zA.mk g1; have G2 := zA.mk g2
 obtain ⟨ad, rfl⟩ := SB.out.some (by omega)
 obtain ⟨d0, d1, d2, d3, d4, d5⟩ := kH SB.out.tb.tv.rd ki g1 g2
 cases hin : (gn t ki.toNat).inn with
 | false =>
  rw [hin, if_pos rfl] at hF
  obtain rfl := Option.some.inj hF
  rw [hin] at d0
  clear hF hin b1 b2
  go_upto_region 6 with (fail)
  have HK : zA ((wq.alloc (.cells #[.bool false, .bool (redA t ki), .int .u64 (gn t ki.toNat).v, .int .i64 (kidA t ki false), .int .i64 (kidA t ki true), .int .i64 (upA t ki)] 57)).heap[wq.heap.size]? = _) := ⟨yM wq (.cells #[.bool false, .bool (redA t ki), .int .u64 (gn t ki.toNat).v, .int .i64 (kidA t ki false), .int .i64 (kidA t ki true), .int .i64 (upA t ki)] 57)⟩
  have HKN := zA.mk (show wq.heap.size ≠ w.heap.size by have := yA SB.out.tb.bx; omega)
  replace SB := zA.mk (SB.out.below (zH (Below.refl _ _) (.cells #[.bool false, .bool (redA t ki), .int .u64 (gn t ki.toNat).v, .int .i64 (kidA t ki false), .int .i64 (kidA t ki true), .int .i64 (upA t ki)] 57)))
  clear a0 a1 f0 f1 y0 y1 yf0 yf1; clear d0 d1 d2 d3 d4 d5
  generalize wq.alloc (.cells #[.bool false, .bool (redA t ki), .int .u64 (gn t ki.toNat).v, .int .i64 (kidA t ki false), .int .i64 (kidA t ki true), .int .i64 (upA t ki)] 57) = W2 at SB HK ⊢
  generalize wq.heap.size = kz at HK HKN ⊢
  have a0 := SB.out.a0; have a1 := SB.out.a1; have f0 := SB.out.f 0; have f1 := SB.out.f 1; have y0 := SB.out.y0; have y1 := SB.out.y1; have yf0 := SB.out.yf 0; have yf1 := SB.out.yf 1
  have v0 := (show W2.cell? ⟨kz, 0, none⟩ = some (.bool false) from (zF HK.out 0).trans rfl)
  go_wp2
  refine bodyPost_ret (yL (cs := #[.int .i64 0, .slice none 0 0]) rfl _ _ (w.heap.size + 1) 24 (0, 0) _ rfl (set2 SB.out.zb rfl _ _) Tryd.underlying24 rfl (by kernel_rfl)) rfl ?_
  exact SB.out.nilT
 | true =>
 rw [hin, if_neg (by simp)] at hF
 rw [hin] at d0
 obtain ⟨t', hdel, hr'⟩ : ∃ t', delA (t.ns.length + 2) t ki.toNat = some t' ∧ r = (t', 0) := by
  cases hd : delA (t.ns.length + 2) t ki.toNat with
  | none => rw [hd] at hF; cases hF
  | some t' => rw [hd] at hF; exact ⟨t', rfl, (Option.some.inj hF).symm⟩
 subst hr'
 have HKI : ((ki.toNat : Nat) : Int) = ki := by omega
 rw [delA, HKI, show (gn t ki.toNat).l = kidA t ki false from rfl, show (gn t ki.toNat).r = kidA t ki true from rfl, show (gn t ki.toNat).u = upA t ki from rfl, show (gn t ki.toNat).red = redA t ki by unfold redA; rw [decide_eq_true g1]; rfl] at hdel
 clear hF hin b1 b2 HKI
 have HZL := zA.mk (show kidA t ki false < (t.ns.length : Int) from O0.out.kid _ _)
 have HZR := zA.mk (show kidA t ki true < (t.ns.length : Int) from O0.out.kid _ _)
 have HZU := zA.mk (show upA t ki < (t.ns.length : Int) from O0.out.up _)
 go_upto_region 6 with (fail)
 have HK : zA ((wq.alloc (.cells #[.bool true, .bool (redA t ki), .int .u64 (gn t ki.toNat).v, .int .i64 (kidA t ki false), .int .i64 (kidA t ki true), .int .i64 (upA t ki)] 57)).heap[wq.heap.size]? = _) := ⟨yM wq (.cells #[.bool true, .bool (redA t ki), .int .u64 (gn t ki.toNat).v, .int .i64 (kidA t ki false), .int .i64 (kidA t ki true), .int .i64 (upA t ki)] 57)⟩
 have HKN := zA.mk (show wq.heap.size ≠ w.heap.size by have := yA SB.out.tb.bx; omega)
 replace SB := zA.mk (SB.out.below (zH (Below.refl _ _) (.cells #[.bool true, .bool (redA t ki), .int .u64 (gn t ki.toNat).v, .int .i64 (kidA t ki false), .int .i64 (kidA t ki true), .int .i64 (upA t ki)] 57)))
 clear a0 a1 f0 f1 y0 y1 yf0 yf1; clear d0 d1 d2 d3 d4 d5
 generalize wq.alloc (.cells #[.bool true, .bool (redA t ki), .int .u64 (gn t ki.toNat).v, .int .i64 (kidA t ki false), .int .i64 (kidA t ki true), .int .i64 (upA t ki)] 57) = W2 at SB HK ⊢
 generalize wq.heap.size = kz at HK HKN ⊢
 have a0 := SB.out.a0; have a1 := SB.out.a1; have f0 := SB.out.f 0; have f1 := SB.out.f 1; have y0 := SB.out.y0; have y1 := SB.out.y1; have yf0 := SB.out.yf 0; have yf1 := SB.out.yf 1
 have v0 := (show W2.cell? ⟨kz, 0, none⟩ = some (.bool true) from (zF HK.out 0).trans rfl)
 go_upto_region 8 with (fail)
 clear v0
 obtain ⟨zn, hzn⟩ : ∃ zn : Nd, zn = ⟨true, redA t ki, (gn t ki.toNat).v, kidA t ki false, kidA t ki true, upA t ki⟩ := ⟨_, rfl⟩
 replace SB : zA (Jb false w.heap.size w.heap.size w W2 w.heap.size kz (w.heap.size + 1) t (some ad) c zn) := ⟨⟨SB.out, by rw [hzn]; exact HK.out, HKN.out⟩⟩
 have Zl := zA.mk (show zn.l = kidA t ki false by rw [hzn])
 have Zr := zA.mk (show zn.r = kidA t ki true by rw [hzn])
 have Zu := zA.mk (show zn.u = upA t ki by rw [hzn])
 have Zc := zA.mk (show zn.red = redA t ki by rw [hzn])
 rw [← Zl.out] at hdel HZL
 rw [← Zr.out] at hdel HZR
 rw [← Zu.out] at hdel HZU
 rw [← Zc.out] at hdel
 clear hzn HK HKN; clear a0 a1 f0 f1 y0 y1 yf0 yf1
 have a0 := SB.out.a0; have a1 := SB.out.a1; have f0 := SB.out.f 0; have f1 := SB.out.f 1; have y0 := SB.out.y0; have y1 := SB.out.y1; have yf0 := SB.out.yf 0; have yf1 := SB.out.yf 1; have v1 := SB.out.v1; have v3 := SB.out.v3; have v4 := SB.out.v4; have v5 := SB.out.v5
 obtain ⟨o, ho⟩ : ∃ o, o = onA t ki := ⟨_, rfl⟩
 rw [← ho] at hdel
 have HO := zA.mk ho.symm
 clear ho
 obtain ⟨zo, hzo⟩ : ∃ zo, zo = sd o := ⟨_, rfl⟩
 have HZO := zA.mk hzo.symm
 clear hzo
 go_upto_region 12 with ((go_at_call 51; (first | (with_reducible refine (jX (t := t) (some ad) c SB.out.tb.tv.rd O0.out ki G1.out G2.out zo (by rw [HO.out]; exact HZO.out)).mono ?_; rintro e wq ⟨rfl, hB⟩) | (replace SB := zA.mk SB.out.drew; with_reducible refine (jX (t := t) (some ad) c SB.out.tb.tv.rd O0.out ki G1.out G2.out zo (by rw [HO.out]; exact HZO.out)).mono ?_; rintro e wq ⟨rfl, hB⟩)); replace SB := zA.mk (SB.out.below hB); replace a0 := SB.out.a0; replace a1 := SB.out.a1; replace f0 := SB.out.f 0; replace f1 := SB.out.f 1; replace y0 := SB.out.y0; replace y1 := SB.out.y1; replace yf0 := SB.out.yf 0; replace yf1 := SB.out.yf 1; replace v1 := SB.out.v1; replace v3 := SB.out.v3; replace v4 := SB.out.v4; replace v5 := SB.out.v5; clear hB))
 obtain ⟨bz, hbz⟩ : ∃ bz, bz = (decide (zn.l < 0) || decide (zn.r < 0)) := ⟨_, rfl⟩
 have HBZ := zA.mk hbz; clear hbz
 go_cut [53] (fun c53 wx => c53 = .bool bz ∧ wq = wx)
 case first =>
  by_cases q1 : zn.l < 0
  ·have q2 : decide (zn.l < 0) = true := decide_eq_true q1
   have HBZ2 := zA.mk (show bz = true by rw [HBZ.out, q2]; rfl)
   go_wp2_with fail
   go_meet
   exact ⟨by rw [HBZ2.out], rfl⟩
  have q2 : decide (zn.l < 0) = false := decide_eq_false q1
  have HBZ2 := zA.mk (show bz = decide (zn.r < 0) by rw [HBZ.out, q2]; rfl)
  go_wp2_with fail
  go_meet
  exact ⟨by rw [HBZ2.out], rfl⟩
 obtain ⟨rfl, rfl⟩ := hcut
 go_upto_if 53 with (fail)
 obtain ⟨T1, p1, s1, gs, hT1, hT2, hmd, hOk, hLen, hP1⟩ : ∃ (T1 : St) (p1 : Int) (s1 gs : Bool), (bz = true → T1 = zZ t zn.u o (max zn.l zn.r) ∧ p1 = zn.u ∧ s1 = o ∧ gs = zn.red) ∧ (bz = false → 0 ≤ zn.l ∧ 0 ≤ zn.r ∧ ∃ yy, jR (t.ns.length + 2) t zn.r = some yy ∧ 0 ≤ yy ∧ yy < t.ns.length ∧ gs = redA t yy ∧ ∃ T0, (yy = zn.r → T0 = t ∧ p1 = yy ∧ s1 = true) ∧ (yy ≠ zn.r → T0 = zZ (zZ t (upA t yy) false (kidA t yy true)) yy true zn.r ∧ p1 = upA t yy ∧ s1 = false) ∧ T1 = kK T0 zn.u o yy zn.l zn.red ∧ Ok T0 ∧ T0.ns.length = t.ns.length) ∧ wE (t.ns.length + 2) gs (sn T1 ki.toNat emp) p1 s1 = some t' ∧ Ok T1 ∧ T1.ns.length = t.ns.length ∧ p1 < t.ns.length := by
  by_cases hone : zn.l < 0 ∨ zn.r < 0
  ·rw [if_pos hone] at hdel
   have hb : bz = true := by rw [HBZ.out]; rcases hone with h | h <;> simp [h]
   have hmx : max zn.l zn.r < (t.ns.length : Int) := by have := HZL.out; have := HZR.out; omega
   exact ⟨_, _, _, _, (fun _ => ⟨rfl, rfl, rfl, rfl⟩), (fun h => by rw [hb] at h; cases h), hdel, O0.out.hang _ _ _ HZU.out hmx, yI _ _ _ _, HZU.out⟩
  rw [if_neg hone] at hdel
  simp only [not_or] at hone
  have hb : bz = false := by rw [HBZ.out]; simp; omega
  cases hlf : jR (t.ns.length + 2) t zn.r with
  | none => rw [hlf] at hdel; cases hdel
  | some yy =>
   rw [hlf] at hdel
   simp only at hdel
   obtain ⟨y0, y1⟩ := leftA_lt O0.out _ (by omega) HZR.out hlf
   have place : ∀ T0 : St, Ok T0 → T0.ns.length = t.ns.length → Ok (kK T0 zn.u o yy zn.l zn.red) ∧ (kK T0 zn.u o yy zn.l zn.red).ns.length = t.ns.length := fun T0 h1 h2 => by
    unfold kK
    have l1 := yI T0 zn.u o yy
    have l2 := yI (zZ T0 zn.u o yy) yy false zn.l
    exact ⟨((h1.hang _ _ _ (by rw [h2]; exact HZU.out) (by rw [h2]; exact y1)).hang _ _ _ (by rw [l1, h2]; exact y1) (by rw [l1, h2]; exact HZL.out)).yE _ _ (by rw [l2, l1, h2]; exact y1), by rw [zP, l2, l1, h2]⟩
   by_cases he : yy = zn.r
   ·rw [if_pos he] at hdel
    have h := place t O0.out rfl
    exact ⟨_, yy, true, redA t yy, (fun h => by rw [hb] at h; cases h), (fun _ => ⟨by omega, by omega, yy, rfl, y0, y1, rfl, t, (fun _ => ⟨rfl, rfl, rfl⟩), (fun h => absurd he h), rfl, O0.out, rfl⟩), hdel, h.1, h.2, y1⟩
   rw [if_neg he] at hdel
   have l1 := yI t (upA t yy) false (kidA t yy true)
   have hO := (O0.out.hang (upA t yy) false (kidA t yy true) (O0.out.up _) (O0.out.kid _ _)).hang yy true zn.r (by rw [l1]; exact y1) (by rw [l1]; exact HZR.out)
   have hLn := (yI (zZ t (upA t yy) false (kidA t yy true)) yy true zn.r).trans l1
   have h := place _ hO hLn
   exact ⟨_, upA t yy, false, redA t yy, (fun h => by rw [hb] at h; cases h), (fun _ => ⟨by omega, by omega, yy, rfl, y0, y1, rfl, _, (fun h => absurd h he), (fun _ => ⟨rfl, rfl, rfl⟩), rfl, hO, hLn⟩), hdel, h.1, h.2, O0.out.up _⟩
 have HT1 := zA.mk hT1; have HT2 := zA.mk hT2; have HMD := zA.mk hmd; have OT1 := zA.mk hOk; have LT1 := zA.mk hLen; have HP1 := zA.mk hP1; clear hT1 hT2 hmd hOk hLen hP1 hdel
 go_cut [9, 10, 11] (fun s9 s10 s11 wx => s9 = .bool gs ∧ s10 = .int .i64 p1 ∧ s11 = .int .i64 (sd s1) ∧ ∃ (A : Option Addr) (c : Nat), zA (Sb false w.heap.size w.heap.size w wx w.heap.size (w.heap.size + 1) T1 A c))
 case first =>
  cases bz with
  | true =>
   obtain ⟨h1, h2, h3, h4⟩ := HT1.out rfl
   have HMX := zA.mk (max_of zn.l zn.r)
   have HMXN := zA.mk (show max zn.l zn.r < (t.ns.length : Int) by have := HZL.out; have := HZR.out; omega)
   have HTT := zA.mk h1.symm
   have HPP := zA.mk h2; have HSS := zA.mk h3; have HGG := zA.mk h4; clear h1 h2 h3 h4
   by_cases hlt : zn.l < zn.r
   ·have HE := zA.mk (show max zn.l zn.r = zn.r by rw [HMX.out, if_pos hlt])
    go_wp2_with (go_at_call 41; (first | (with_reducible refine (qZ (own := false) (S := w.heap.size) (N := w.heap.size) (t := t) (some ad) c SB.out.tb.tv SB.out.sS SB.out.sN HL.out zn.u HZU.out o zo HZO.out zn.r HZR.out).mono ?_; rintro e wq ⟨A1, c1, rfl, hTq, hB⟩) | (replace SB := zA.mk SB.out.drew; with_reducible refine (qZ (own := false) (S := w.heap.size) (N := w.heap.size) (t := t) (some ad) c SB.out.tb.tv SB.out.sS SB.out.sN HL.out zn.u HZU.out o zo HZO.out zn.r HZR.out).mono ?_; rintro e wq ⟨A1, c1, rfl, hTq, hB⟩)); rw [show zZ t zn.u o zn.r = T1 by rw [← HE.out]; exact HTT.out] at hTq; have TV := zA.mk hTq; replace SB := zA.mk (SB.out.below hB); replace a0 := SB.out.a0; replace a1 := SB.out.a1; replace f0 := SB.out.f 0; replace f1 := SB.out.f 1; replace y0 := SB.out.y0; replace y1 := SB.out.y1; replace yf0 := SB.out.yf 0; replace yf1 := SB.out.yf 1; replace v1 := SB.out.v1; replace v3 := SB.out.v3; replace v4 := SB.out.v4; replace v5 := SB.out.v5; rw [show zZ t zn.u o zn.r = T1 by rw [← HE.out]; exact HTT.out]; clear hTq hB)
    go_meet
    exact ⟨by rw [HGG.out], by rw [HPP.out], by rw [HSS.out, HZO.out], _, _, ⟨(SB.out.store TV.out).sb⟩⟩
   have HE := zA.mk (show max zn.l zn.r = zn.l by rw [HMX.out, if_neg hlt])
   go_wp2_with (go_at_call 41; (first | (with_reducible refine (qZ (own := false) (S := w.heap.size) (N := w.heap.size) (t := t) (some ad) c SB.out.tb.tv SB.out.sS SB.out.sN HL.out zn.u HZU.out o zo HZO.out zn.l HZL.out).mono ?_; rintro e wq ⟨A1, c1, rfl, hTq, hB⟩) | (replace SB := zA.mk SB.out.drew; with_reducible refine (qZ (own := false) (S := w.heap.size) (N := w.heap.size) (t := t) (some ad) c SB.out.tb.tv SB.out.sS SB.out.sN HL.out zn.u HZU.out o zo HZO.out zn.l HZL.out).mono ?_; rintro e wq ⟨A1, c1, rfl, hTq, hB⟩)); rw [show zZ t zn.u o zn.l = T1 by rw [← HE.out]; exact HTT.out] at hTq; have TV := zA.mk hTq; replace SB := zA.mk (SB.out.below hB); replace a0 := SB.out.a0; replace a1 := SB.out.a1; replace f0 := SB.out.f 0; replace f1 := SB.out.f 1; replace y0 := SB.out.y0; replace y1 := SB.out.y1; replace yf0 := SB.out.yf 0; replace yf1 := SB.out.yf 1; replace v1 := SB.out.v1; replace v3 := SB.out.v3; replace v4 := SB.out.v4; replace v5 := SB.out.v5; rw [show zZ t zn.u o zn.l = T1 by rw [← HE.out]; exact HTT.out]; clear hTq hB)
   go_meet
   exact ⟨by rw [HGG.out], by rw [HPP.out], by rw [HSS.out, HZO.out], _, _, ⟨(SB.out.store TV.out).sb⟩⟩
  | false =>
   obtain ⟨zl0, zr0, yy, hlf, y0, y1, hgs, T0, hE1, hE2, hPl, hO0, hL0⟩ := HT2.out rfl
   have ZL0 := zA.mk zl0; have ZR0 := zA.mk zr0; have HLF := zA.mk hlf; have Y0 := zA.mk y0; have Y1 := zA.mk y1
   have HGS := zA.mk hgs.symm
   have HE1 := zA.mk hE1; have HE2 := zA.mk hE2
   have HPL := zA.mk hPl.symm
   have OT0 := zA.mk hO0; have LT0 := zA.mk hL0; clear zl0 zr0 hlf y0 y1 hgs hE1 hE2 hPl hO0 hL0
   go_wp2
   go_loopw [13] (fun vy wr => YRl t yy wq vy wr) (fun vy wr => least (YRel t yy wq vy wr))
   case atStart => exact ⟨t.ns.length + 2, zn.r, rfl, ZR0.out, HZR.out, HLF.out, rfl⟩
   case round =>
    have HRq := xE hrel.out
    obtain ⟨hR1, hR2⟩ := HRq
    generalize hlk : least _ = lk at hR1 ⊢
    obtain ⟨y, rfl, hy0, hy1, hlf, rfl⟩ := hR1.out
    obtain ⟨m, rfl⟩ : ∃ m, lk = m + 1 := by
      cases lk with
      | zero => simp [jR] at hlf
      | succ m => exact ⟨m, rfl⟩
    have HLK := zA.mk hlk
    rw [jR] at hlf
    clear hR2 hrel hR1 hlk
    have d3 := (kH SB.out.tb.tv.rd y hy0 hy1).2.2.2.1
    obtain ⟨yl, hyl⟩ : ∃ yl, yl = kidA t y false := ⟨_, rfl⟩
    have HYLN := zA.mk (show yl < (t.ns.length : Int) by rw [hyl]; exact O0.out.kid _ _)
    rw [← hyl] at hlf d3
    clear hyl
    by_cases hyl0 : 0 ≤ yl
    ·rw [if_pos hyl0] at hlf
     have HLF2 := zA.mk hlf; have HY0 := zA.mk hyl0; clear hlf
     go_wp2
     have hq : YRel t yy wr (Value.int IntKind.i64 yl) wr m := ⟨yl, rfl, HY0.out, HYLN.out, HLF2.out, rfl⟩
     refine ⟨⟨m, hq⟩, ?_⟩
     have h3 := (xE ⟨m, hq⟩).2 m hq
     exact Nat.lt_of_le_of_lt h3 (by rw [HLK.out]; omega)
    rw [if_neg hyl0] at hlf
    have hyl1 : decide (0 ≤ yl) = false := decide_eq_false hyl0
    obtain rfl := Option.some.inj hlf
    have d1 := (kH SB.out.tb.tv.rd y hy0 hy1).2.1
    rw [HGS.out] at d1
    clear hlf
    go_upto_region 20 with (fail)
    clear d3 d1 hyl0 hyl1
    go_upto_if 88 with (fail)
    go_cut [10, 11] (fun s10 s11 wx => s10 = .int .i64 p1 ∧ s11 = .int .i64 (sd s1) ∧ ∃ (A : Option Addr) (c : Nat), zA (Jb false w.heap.size w.heap.size w wx w.heap.size kz (w.heap.size + 1) T0 A c zn))
    case first =>
     by_cases he : y = zn.r
     ·obtain ⟨h1, h2, h3⟩ := HE1.out he
      have HPP := zA.mk h2; have HSS := zA.mk h3
      have hne : (y != zn.r) = false := by simpa using he
      have HT0 := zA.mk h1; clear h1 h2 h3 he
      go_wp2_with fail
      go_meet
      exact ⟨by rw [HPP.out], by rw [HSS.out]; rfl, _, _, by rw [HT0.out]; exact SB⟩
     obtain ⟨h1, h2, h3⟩ := HE2.out he
     have HPP := zA.mk h2; have HSS := zA.mk h3
     have hne : (y != zn.r) = true := by simpa using he
     have HT0 := zA.mk h1; clear h1 h2 h3 he
     obtain ⟨d0, d1, d2, d3, d4, d5⟩ := kH SB.out.tb.tv.rd y hy0 hy1
     clear d0 d1 d2 d3
     rw [← HPP.out] at d5
     obtain ⟨yr, hyr⟩ : ∃ yr, yr = kidA t y true := ⟨_, rfl⟩
     have HYRN := zA.mk (show yr < (t.ns.length : Int) by rw [hyr]; exact O0.out.kid _ _)
     rw [← HPP.out, ← hyr] at HT0
     rw [← hyr] at d4
     clear hyr
     go_upto_region 23 with (fail)
     go_still_tail 8, (by kernel_rfl)
     change wpList _ _ _ _ _ (World.drew _)
     replace SB := zA.mk SB.out.drew
     clear a0 a1 f0 f1 y0 y1 yf0 yf1 v1 v3 v4 v5
     generalize World.drew _ = V0 at SB ⊢
     have a0 := SB.out.a0; have a1 := SB.out.a1; have f0 := SB.out.f 0; have f1 := SB.out.f 1; have y0 := SB.out.y0; have y1 := SB.out.y1; have yf0 := SB.out.yf 0; have yf1 := SB.out.yf 1; have v1 := SB.out.v1; have v3 := SB.out.v3; have v4 := SB.out.v4; have v5 := SB.out.v5
     clear d4 d5
     obtain ⟨T2, hh⟩ : ∃ q, q = zZ t p1 false yr := ⟨_, rfl⟩
     have HTT2 := zA.mk hh.symm
     have LT2 := zA.mk (show T2.ns.length = t.ns.length by rw [hh]; rw [yI])
     clear hh
     have HT3 := zA.mk (show zZ T2 y true zn.r = T0 by rw [HT0.out, ← HTT2.out])
     go_upto_region 24 with ((go_at_call 41; (first | (with_reducible refine (qZ (own := false) (S := w.heap.size) (N := w.heap.size) (t := t) (some ad) c SB.out.tb.tv SB.out.sS SB.out.sN HL.out p1 HP1.out false 0 rfl yr HYRN.out).mono ?_; rintro e wq ⟨A1, c1, rfl, hTq, hB⟩) | (replace SB := zA.mk SB.out.drew; with_reducible refine (qZ (own := false) (S := w.heap.size) (N := w.heap.size) (t := t) (some ad) c SB.out.tb.tv SB.out.sS SB.out.sN HL.out p1 HP1.out false 0 rfl yr HYRN.out).mono ?_; rintro e wq ⟨A1, c1, rfl, hTq, hB⟩)); rw [HTT2.out] at hTq; have TV := zA.mk hTq; replace SB := zA.mk (SB.out.below hB); replace a0 := SB.out.a0; replace a1 := SB.out.a1; replace f0 := SB.out.f 0; replace f1 := SB.out.f 1; replace y0 := SB.out.y0; replace y1 := SB.out.y1; replace yf0 := SB.out.yf 0; replace yf1 := SB.out.yf 1; replace v1 := SB.out.v1; replace v3 := SB.out.v3; replace v4 := SB.out.v4; replace v5 := SB.out.v5; rw [HTT2.out]; clear hTq hB))
     replace SB := zA.mk (SB.out.store TV.out)
     clear a0 a1 f0 f1 y0 y1 yf0 yf1 v1 v3 v4 v5
     generalize World.setCell _ _ _ = V1 at SB ⊢
     clear TV
     have a0 := SB.out.a0; have a1 := SB.out.a1; have f0 := SB.out.f 0; have f1 := SB.out.f 1; have y0 := SB.out.y0; have y1 := SB.out.y1; have yf0 := SB.out.yf 0; have yf1 := SB.out.yf 1; have v1 := SB.out.v1; have v3 := SB.out.v3; have v4 := SB.out.v4; have v5 := SB.out.v5
     go_wp2_with (go_at_call 41; (first | (with_reducible refine (qZ (own := false) (S := w.heap.size) (N := w.heap.size) (t := T2) A1 c1 SB.out.tb.tv SB.out.sS SB.out.sN (by rw [LT2.out]; exact HL.out) y (by rw [LT2.out]; exact Y1.out) true 1 rfl zn.r (by rw [LT2.out]; exact HZR.out)).mono ?_; rintro e wq ⟨A2, c2, rfl, hTq, hB⟩) | (replace SB := zA.mk SB.out.drew; with_reducible refine (qZ (own := false) (S := w.heap.size) (N := w.heap.size) (t := T2) A1 c1 SB.out.tb.tv SB.out.sS SB.out.sN (by rw [LT2.out]; exact HL.out) y (by rw [LT2.out]; exact Y1.out) true 1 rfl zn.r (by rw [LT2.out]; exact HZR.out)).mono ?_; rintro e wq ⟨A2, c2, rfl, hTq, hB⟩)); rw [HT3.out] at hTq; have TV := zA.mk hTq; replace SB := zA.mk (SB.out.below hB); replace a0 := SB.out.a0; replace a1 := SB.out.a1; replace f0 := SB.out.f 0; replace f1 := SB.out.f 1; replace y0 := SB.out.y0; replace y1 := SB.out.y1; replace yf0 := SB.out.yf 0; replace yf1 := SB.out.yf 1; replace v1 := SB.out.v1; replace v3 := SB.out.v3; replace v4 := SB.out.v4; replace v5 := SB.out.v5; rw [HT3.out]; clear hTq hB)
     go_meet
     exact ⟨rfl, by rw [HSS.out]; rfl, _, _, ⟨SB.out.store TV.out⟩⟩
    obtain ⟨rfl, rfl, A2, c2, SB2⟩ := hcut
    clear SB HE1 HE2 a0 a1 f0 f1 y0 y1 yf0 yf1 v1 v3 v4 v5; have SB := SB2; clear SB2
    generalize wc = W5 at SB ⊢
    have a0 := SB.out.a0; have a1 := SB.out.a1; have f0 := SB.out.f 0; have f1 := SB.out.f 1; have y0 := SB.out.y0; have y1 := SB.out.y1; have yf0 := SB.out.yf 0; have yf1 := SB.out.yf 1; have v1 := SB.out.v1; have v3 := SB.out.v3; have v4 := SB.out.v4; have v5 := SB.out.v5
    obtain ⟨P1, hh⟩ : ∃ q, q = zZ T0 zn.u o y := ⟨_, rfl⟩
    have HPA := zA.mk hh.symm
    have LP1 := zA.mk (show P1.ns.length = T0.ns.length by rw [hh]; rw [yI])
    clear hh
    obtain ⟨P2, hh⟩ : ∃ q, q = zZ P1 y false zn.l := ⟨_, rfl⟩
    have HPB := zA.mk hh.symm
    have LP2 := zA.mk (show P2.ns.length = T0.ns.length by rw [hh]; rw [yI, LP1.out])
    clear hh
    have HPC := zA.mk (show zQ P2 zn.red y = T1 by rw [← HPL.out, ← HPB.out, ← HPA.out]; rfl)
    go_upto_region 25 with (fail)
    refine jQ (n := 11) (S := fun w' => w'.cell? ⟨w.heap.size, 0, none⟩ = some (.int .i64 T0.rt) ∧ w'.cell? ⟨w.heap.size, 1, none⟩ = some (.slice A2 T0.ns.length c2) ∧ w'.cell? ⟨kz, 3, none⟩ = some (.int .i64 zn.l) ∧ w'.cell? ⟨kz, 5, none⟩ = some (.int .i64 zn.u)) (ds := [10]) #[false, false, false, false, false, false, false, false, false, false, false] (by kernel_rfl) rfl rfl ⟨SB.out.drew.a0, SB.out.drew.a1, SB.out.drew.v3, SB.out.drew.v5⟩ (fun hHeld => ?_)
    replace SB := zA.mk SB.out.drew
    clear a0 a1 f0 f1 y0 y1 yf0 yf1 v1 v3 v4 v5
    generalize World.drew _ = V2 at SB hHeld ⊢
    have a0 := SB.out.a0; have a1 := SB.out.a1; have f0 := SB.out.f 0; have f1 := SB.out.f 1; have y0 := SB.out.y0; have y1 := SB.out.y1; have yf0 := SB.out.yf 0; have yf1 := SB.out.yf 1; have v1 := SB.out.v1; have v3 := SB.out.v3; have v4 := SB.out.v4; have v5 := SB.out.v5
    refine x9 (i := 0) (N := some 109) (v := ?_) (a' := ?_) #[true, false, false, false, false, false, false, false, false, false, false] rfl rfl (by kernel_rfl) (fun _ _ _ h => h) (Or.inl ⟨by rfl, ?_⟩) hHeld ?_ ?_
    rotate_left
    ·rintro w' ⟨s0, s1, s2, s3⟩
     go_simp
     with_reducible rfl
    rotate_left
    ·(simp only [Act.put, List.setIfInBounds_toArray, List.set_cons_zero, List.set_cons_succ, zU, zV]; rfl)
    refine yB (i := 1) (N := some 110) (v := ?_) (a' := ?_) #[true, true, false, false, false, false, false, false, false, false, false] rfl rfl (by kernel_rfl) (fun _ _ _ h => h) (Or.inl ⟨by rfl, ?_⟩) ?_ ?_
    rotate_left
    ·intro w'
     go_simp
     with_reducible rfl
    rotate_left
    ·(simp only [Act.put, List.setIfInBounds_toArray, List.set_cons_zero, List.set_cons_succ, zU, zV]; rfl)
    refine x9 (i := 2) (N := some 111) (v := ?_) (a' := ?_) #[true, true, true, false, false, false, false, false, false, false, false] rfl rfl (by kernel_rfl) (fun _ _ _ h => h) (Or.inl ⟨by rfl, ?_⟩) hHeld ?_ ?_
    rotate_left
    ·rintro w' ⟨s0, s1, s2, s3⟩
     go_simp
     with_reducible rfl
    rotate_left
    ·(simp only [Act.put, List.setIfInBounds_toArray, List.set_cons_zero, List.set_cons_succ, zU, zV]; rfl)
    refine yB (i := 3) (N := some 112) (v := ?_) (a' := ?_) #[true, true, true, true, false, false, false, false, false, false, false] rfl rfl (by kernel_rfl) (fun _ _ _ h => h) (Or.inl ⟨by rfl, ?_⟩) ?_ ?_
    rotate_left
    ·intro w'
     go_simp
     with_reducible rfl
    rotate_left
    ·(simp only [Act.put, List.setIfInBounds_toArray, List.set_cons_zero, List.set_cons_succ, zU, zV]; rfl)
    refine yB (i := 4) (N := some 113) (v := ?_) (a' := ?_) #[true, true, true, true, true, false, false, false, false, false, false] rfl rfl (by kernel_rfl) (fun _ _ _ h => h) (Or.inl ⟨by rfl, ?_⟩) ?_ ?_
    rotate_left
    ·intro w'
     go_simp
     with_reducible rfl
    rotate_left
    ·(simp only [Act.put, List.setIfInBounds_toArray, List.set_cons_zero, List.set_cons_succ, zU, zV]; rfl)
    refine yB (i := 6) (N := some 115) (v := ?_) (a' := ?_) #[true, true, true, true, true, false, true, false, false, false, false] rfl rfl (by kernel_rfl) (fun _ _ _ h => h) (Or.inl ⟨by rfl, ?_⟩) ?_ ?_
    rotate_left
    ·intro w'
     go_simp
     with_reducible rfl
    rotate_left
    ·(simp only [Act.put, List.setIfInBounds_toArray, List.set_cons_zero, List.set_cons_succ, zU, zV]; rfl)
    refine yB (i := 7) (N := some 116) (v := ?_) (a' := ?_) #[true, true, true, true, true, false, true, true, false, false, false] rfl rfl (by kernel_rfl) (fun _ _ _ h => h) (Or.inl ⟨by rfl, ?_⟩) ?_ ?_
    rotate_left
    ·intro w'
     go_simp
     with_reducible rfl
    rotate_left
    ·(simp only [Act.put, List.setIfInBounds_toArray, List.set_cons_zero, List.set_cons_succ, zU, zV]; rfl)
    refine x9 (i := 8) (N := some 117) (v := ?_) (a' := ?_) #[true, true, true, true, true, false, true, true, true, false, false] rfl rfl (by kernel_rfl) (fun _ _ _ h => h) (Or.inl ⟨by rfl, ?_⟩) hHeld ?_ ?_
    rotate_left
    ·rintro w' ⟨s0, s1, s2, s3⟩
     go_simp
     with_reducible rfl
    rotate_left
    ·(simp only [Act.put, List.setIfInBounds_toArray, List.set_cons_zero, List.set_cons_succ, zU, zV]; rfl)
    refine one_ (i := 5) (N := some 114) #[true, true, true, true, true, true, true, true, true, false, false] rfl rfl (by kernel_rfl) (by decide) (fun K hK => ?_)
    refine qF Tryd.func41 (by kernel_rfl) rfl #[.agg #[.int .i64 T0.rt, .slice A2 T0.ns.length c2], .int .i64 zn.u, .int .i64 zo, .int .i64 y] (by rfl) rfl rfl (by (try simp only [List.map_toArray, List.map_cons, List.map_nil]); first | done | rfl) ?_
    with_reducible refine (qZ (own := false) (S := w.heap.size) (N := w.heap.size) (t := T0) A2 c2 SB.out.tb.tv SB.out.sS SB.out.sN (by rw [LT0.out]; exact HL.out) zn.u (by rw [LT0.out]; exact HZU.out) o zo HZO.out y (by rw [LT0.out]; exact Y1.out)).mono ?_
    rintro e wq ⟨B1, e1, rfl, hTq, hB⟩
    refine ⟨_, rfl, ?_⟩
    rw [HPA.out] at hTq
    have TV := zA.mk hTq
    replace SB := zA.mk (SB.out.below hB); replace a0 := SB.out.a0; replace a1 := SB.out.a1; replace f0 := SB.out.f 0; replace f1 := SB.out.f 1; replace y0 := SB.out.y0; replace y1 := SB.out.y1; replace yf0 := SB.out.yf 0; replace yf1 := SB.out.yf 1; replace v1 := SB.out.v1; replace v3 := SB.out.v3; replace v4 := SB.out.v4; replace v5 := SB.out.v5
    rw [HPA.out]
    clear hTq hB
    refine hK.out _ _ ⟨SB.out.a0, SB.out.a1, SB.out.v3, SB.out.v5⟩ (fun hHeld => ?_)
    clear hK K
    refine xA (a' := ?_) ?_ ?_
    rotate_left
    ·(show Act.put _ (some 114) _ = _; (simp only [Act.put, List.setIfInBounds_toArray, List.set_cons_zero, List.set_cons_succ, zU, zV]; rfl))
    refine one_ (i := 9) (N := some 118) #[true, true, true, true, true, true, true, true, true, true, false] rfl rfl (by kernel_rfl) (by decide) (fun K hK => ?_)
    refine qF Tryd.func41 (by kernel_rfl) rfl #[.agg #[.int .i64 P1.rt, .slice B1 P1.ns.length e1], .int .i64 y, .int .i64 0, .int .i64 zn.l] (by rfl) rfl rfl (by (try simp only [List.map_toArray, List.map_cons, List.map_nil]); first | done | rfl) ?_
    with_reducible refine (qZ (own := false) (S := w.heap.size) (N := w.heap.size) (t := P1) B1 e1 TV.out SB.out.sS SB.out.sN (by rw [LP1.out, LT0.out]; exact HL.out) y (by rw [LP1.out, LT0.out]; exact Y1.out) false 0 rfl zn.l (by rw [LP1.out, LT0.out]; exact HZL.out)).mono ?_
    rintro e wq ⟨B2, e2, rfl, hTq, hB⟩
    refine ⟨_, rfl, ?_⟩
    rw [HPB.out] at hTq
    have TV := zA.mk hTq
    replace SB := zA.mk (SB.out.below hB); replace a0 := SB.out.a0; replace a1 := SB.out.a1; replace f0 := SB.out.f 0; replace f1 := SB.out.f 1; replace y0 := SB.out.y0; replace y1 := SB.out.y1; replace yf0 := SB.out.yf 0; replace yf1 := SB.out.yf 1; replace v1 := SB.out.v1; replace v3 := SB.out.v3; replace v4 := SB.out.v4; replace v5 := SB.out.v5
    rw [HPB.out]
    clear hTq hB
    refine hK.out _ _ ⟨SB.out.a0, SB.out.a1, SB.out.v3, SB.out.v5⟩ (fun hHeld => ?_)
    clear hK K
    refine xA (a' := ?_) ?_ ?_
    rotate_left
    ·(show Act.put _ (some 118) _ = _; (simp only [Act.put, List.setIfInBounds_toArray, List.set_cons_zero, List.set_cons_succ, zU, zV]; rfl))
    refine last_ (i := 10) (N := none) #[true, true, true, true, true, true, true, true, true, true, true] rfl rfl (by kernel_rfl) (by decide) (fun K hK => ?_)
    refine zab (w1 := ?_) (by rfl) rfl ?_ ?_
    rotate_left
    ·go_simp
     rfl
    refine hK.out _ _ ?_
    clear hK K
    refine vJ (by kernel_rfl) ?_
    replace SB := zA.mk (SB.out.store TV.out)
    clear a0 a1 f0 f1 y0 y1 yf0 yf1 v1 v3 v4 v5
    generalize World.setCell _ _ _ = V3 at SB ⊢
    clear TV
    have a0 := SB.out.a0; have a1 := SB.out.a1; have f0 := SB.out.f 0; have f1 := SB.out.f 1; have y0 := SB.out.y0; have y1 := SB.out.y1; have yf0 := SB.out.yf 0; have yf1 := SB.out.yf 1; have v1 := SB.out.v1; have v3 := SB.out.v3; have v4 := SB.out.v4; have v5 := SB.out.v5
    go_upto_region 26 with (fail)
    go_wp2_with (go_at_call 52; (first | (with_reducible refine (xB (own := false) (S := w.heap.size) (N := w.heap.size) (t := P2) B2 e2 SB.out.tb.tv SB.out.sS SB.out.sN (by rw [LP2.out, LT0.out]; exact HL.out) y (by rw [LP2.out, LT0.out]; exact Y1.out) zn.red).mono ?_; rintro e wq ⟨B3, e3, rfl, hTq, hB⟩) | (replace SB := zA.mk SB.out.drew; with_reducible refine (xB (own := false) (S := w.heap.size) (N := w.heap.size) (t := P2) B2 e2 SB.out.tb.tv SB.out.sS SB.out.sN (by rw [LP2.out, LT0.out]; exact HL.out) y (by rw [LP2.out, LT0.out]; exact Y1.out) zn.red).mono ?_; rintro e wq ⟨B3, e3, rfl, hTq, hB⟩)); rw [HPC.out] at hTq; have TV := zA.mk hTq; replace SB := zA.mk (SB.out.below hB); replace a0 := SB.out.a0; replace a1 := SB.out.a1; replace f0 := SB.out.f 0; replace f1 := SB.out.f 1; replace y0 := SB.out.y0; replace y1 := SB.out.y1; replace yf0 := SB.out.yf 0; replace yf1 := SB.out.yf 1; replace v1 := SB.out.v1; replace v3 := SB.out.v3; replace v4 := SB.out.v4; replace v5 := SB.out.v5; rw [HPC.out]; clear hTq hB)
    go_meet
    exact ⟨rfl, rfl, rfl, _, _, ⟨(SB.out.store TV.out).sb⟩⟩
 obtain ⟨rfl, rfl, rfl, A9, c9, SB2⟩ := hcut
 clear SB HT1 HT2 a0 a1 f0 f1 y0 y1 yf0 yf1 v1 v3 v4 v5; have SB := SB2; clear SB2
 generalize wc = W8 at SB ⊢
 have a0 := SB.out.a0; have a1 := SB.out.a1; have f0 := SB.out.f 0; have f1 := SB.out.f 1; have y0 := SB.out.y0; have y1 := SB.out.y1; have yf0 := SB.out.yf 0; have yf1 := SB.out.yf 1
 obtain ⟨T6, hh⟩ : ∃ q, q = sn T1 ki.toNat ⟨false, false, 0, -1, -1, -1⟩ := ⟨_, rfl⟩
 have HT6 := zA.mk hh.symm
 have LT6 := zA.mk (show T6.ns.length = T1.ns.length by rw [hh]; rw [qA])
 have OT6 := zA.mk (show Ok T6 by rw [hh]; exact OT1.out.sn _ _ (by rw [LT1.out]; have := G2.out; have := G1.out; omega) (by have := G2.out; have := G1.out; have := LT1.out; show (-1 : Int) < _ ∧ (-1 : Int) < _ ∧ (-1 : Int) < _; omega))
 clear hh; have hmd := HMD.out
 rw [show emp = (⟨false, false, 0, -1, -1, -1⟩ : Nd) from rfl, HT6.out] at hmd
 clear HMD
 have hgd : decide (0 ≤ ki) = true := decide_eq_true G1.out
 go_upto_region 27 with (fail)
 refine jQ (n := 5) (S := fun w' => w'.cell? ⟨w.heap.size, 0, none⟩ = some (.int .i64 T1.rt) ∧ w'.cell? ⟨w.heap.size, 1, none⟩ = some (.slice A9 T1.ns.length c9)) (ds := [4]) #[false, false, false, false, false] (by kernel_rfl) rfl rfl ⟨SB.out.drew.a0, SB.out.drew.a1⟩ (fun hHeld => ?_)
 replace SB := zA.mk SB.out.drew
 clear a0 a1 f0 f1 y0 y1 yf0 yf1
 generalize World.drew _ = V4 at SB hHeld ⊢
 have a0 := SB.out.a0; have a1 := SB.out.a1; have f0 := SB.out.f 0; have f1 := SB.out.f 1; have y0 := SB.out.y0; have y1 := SB.out.y1; have yf0 := SB.out.yf 0; have yf1 := SB.out.yf 1
 refine x9 (i := 0) (N := some 124) (v := ?_) (a' := ?_) #[true, false, false, false, false] rfl rfl (by kernel_rfl) (fun _ _ _ h => h) (Or.inl ⟨by rfl, ?_⟩) hHeld ?_ ?_
 rotate_left
 ·rintro w' ⟨s0, s1⟩
  go_simp
  with_reducible rfl
 rotate_left
 ·(simp only [Act.put, List.setIfInBounds_toArray, List.set_cons_zero, List.set_cons_succ, zU, zV]; rfl)
 refine yB (i := 1) (N := some 125) (v := ?_) (a' := ?_) #[true, true, false, false, false] rfl rfl (by kernel_rfl) (fun _ _ _ h => h) (Or.inl ⟨by rfl, ?_⟩) ?_ ?_
 rotate_left
 ·intro w'
  go_simp
  with_reducible rfl
 rotate_left
 ·(simp only [Act.put, List.setIfInBounds_toArray, List.set_cons_zero, List.set_cons_succ, zU, zV]; rfl)
 refine one_ (i := 2) (N := some 126) #[true, true, true, false, false] rfl rfl (by kernel_rfl) (by decide) (fun K hK => ?_)
 refine qF Tryd.func40 (by kernel_rfl) rfl #[] (by rfl) rfl rfl (by (try simp only [List.map_toArray, List.map_cons, List.map_nil]); first | done | rfl) ?_
 with_reducible refine (rempty_).mono ?_
 rintro e wq ⟨rfl, hB⟩
 refine ⟨_, rfl, ?_⟩
 replace SB := zA.mk (SB.out.below hB); replace a0 := SB.out.a0; replace a1 := SB.out.a1; replace f0 := SB.out.f 0; replace f1 := SB.out.f 1; replace y0 := SB.out.y0; replace y1 := SB.out.y1; replace yf0 := SB.out.yf 0; replace yf1 := SB.out.yf 1
 clear hB
 refine hK.out _ _ ⟨SB.out.a0, SB.out.a1⟩ (fun hHeld => ?_)
 clear hK K
 refine xA (a' := ?_) ?_ ?_
 rotate_left
 ·(show Act.put _ (some 126) _ = _; (simp only [Act.put, List.setIfInBounds_toArray, List.set_cons_zero, List.set_cons_succ, zU, zV]; rfl))
 refine one_ (i := 3) (N := some 127) #[true, true, true, true, false] rfl rfl (by kernel_rfl) (by decide) (fun K hK => ?_)
 refine qF Tryd.func42 (by kernel_rfl) rfl #[.agg #[.int .i64 T1.rt, .slice A9 T1.ns.length c9], .int .i64 ki, .agg #[.bool false, .bool false, .int .u64 0, .int .i64 (-1), .int .i64 (-1), .int .i64 (-1)]] (by rfl) rfl rfl (by (try simp only [List.map_toArray, List.map_cons, List.map_nil]); first | done | rfl) ?_
 with_reducible refine (zbI (own := true) (S := w.heap.size) (N := w.heap.size) (t := T1) A9 c9 SB.out.tb.tv.rd SB.out.sS SB.out.sN (by rw [LT1.out]; exact HL.out) ki G1.out (by rw [LT1.out]; exact G2.out) ⟨false, false, 0, -1, -1, -1⟩).mono ?_
 rintro e wq ⟨A3, c3, rfl, hTq, hB⟩
 refine ⟨_, rfl, ?_⟩
 rw [HT6.out] at hTq
 have TV := zA.mk hTq
 replace SB := zA.mk (SB.out.below hB); replace a0 := SB.out.a0; replace a1 := SB.out.a1; replace f0 := SB.out.f 0; replace f1 := SB.out.f 1; replace y0 := SB.out.y0; replace y1 := SB.out.y1; replace yf0 := SB.out.yf 0; replace yf1 := SB.out.yf 1
 rw [HT6.out]
 clear hTq hB
 refine hK.out _ _ ⟨SB.out.a0, SB.out.a1⟩ (fun hHeld => ?_)
 clear hK K
 refine xA (a' := ?_) ?_ ?_
 rotate_left
 ·(show Act.put _ (some 127) _ = _; (simp only [Act.put, List.setIfInBounds_toArray, List.set_cons_zero, List.set_cons_succ, zU, zV]; rfl))
 refine last_ (i := 4) (N := none) #[true, true, true, true, true] rfl rfl (by kernel_rfl) (by decide) (fun K hK => ?_)
 refine zab (w1 := ?_) (by rfl) rfl ?_ ?_
 rotate_left
 ·go_simp
  rfl
 refine hK.out _ _ ?_
 clear hK K
 refine vJ (by kernel_rfl) ?_
 replace SB := zA.mk (SB.out.store TV.out)
 clear a0 a1 f0 f1 y0 y1 yf0 yf1
 generalize World.setCell _ _ _ = V5 at SB ⊢
 clear TV
 have a0 := SB.out.a0; have a1 := SB.out.a1; have f0 := SB.out.f 0; have f1 := SB.out.f 1; have y0 := SB.out.y0; have y1 := SB.out.y1; have yf0 := SB.out.yf 0; have yf1 := SB.out.yf 1
 go_upto_region 28 with (fail)
 cases gs with
 | true =>
  obtain rfl : T6 = t' := Option.some.inj (show some T6 = some t' from hmd)
  clear hmd
  go_wp2
  refine bodyPost_ret (yL (cs := #[.int .i64 (T6).rt, .slice A3 (T6).ns.length c3]) rfl _ _ (w.heap.size + 1) 24 (0, 0) _ rfl (set2 SB.out.zb rfl _ _) Tryd.underlying24 rfl (by kernel_rfl)) rfl ?_
  exact SB.out.finT SB.out.tb.tv
 | false =>
  have HMD := zA.mk (show qH (t.ns.length + 2) T6 p1 s1 = some t' from hmd)
  clear hmd
  go_wp2_with (go_at_call 53; (first | (with_reducible refine (rfill_ (own := true) (S := w.heap.size) (N := w.heap.size) (t := T6) A3 c3 SB.out.tb.tv SB.out.sS SB.out.sN (by rw [LT6.out, LT1.out]; exact HL.out) OT6.out p1 s1 (by rw [LT6.out, LT1.out]; exact HP1.out) (t.ns.length + 2) t' HMD.out).mono ?_; rintro e wq ⟨A4, c4, rfl, hTq, hB⟩) | (replace SB := zA.mk SB.out.drew; with_reducible refine (rfill_ (own := true) (S := w.heap.size) (N := w.heap.size) (t := T6) A3 c3 SB.out.tb.tv SB.out.sS SB.out.sN (by rw [LT6.out, LT1.out]; exact HL.out) OT6.out p1 s1 (by rw [LT6.out, LT1.out]; exact HP1.out) (t.ns.length + 2) t' HMD.out).mono ?_; rintro e wq ⟨A4, c4, rfl, hTq, hB⟩)); have TV := zA.mk hTq; replace SB := zA.mk (SB.out.below hB); replace a0 := SB.out.a0; replace a1 := SB.out.a1; replace f0 := SB.out.f 0; replace f1 := SB.out.f 1; replace y0 := SB.out.y0; replace y1 := SB.out.y1; replace yf0 := SB.out.yf 0; replace yf1 := SB.out.yf 1; clear hTq hB)
  refine bodyPost_ret (yL (cs := #[.int .i64 (t').rt, .slice A4 (t').ns.length c4]) rfl _ _ (w.heap.size + 1) 24 (0, 0) _ rfl (set2 SB.out.zb rfl _ _) Tryd.underlying24 rfl (by kernel_rfl)) rfl ?_
  exact SB.out.finT TV.out
end Go.Proofs.YtfapmcpmfeigbaaDoor.Tm
