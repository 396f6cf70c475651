/- Parts of the proof, joined: Rm11. -/
import Derived.Test.YtfapmcpmfeigbaaDoorUD26
import Derived.Test.YtfapmcpmfeigbaaDoorUD27
import Derived.StillTailTactics
namespace Go.Proofs.YtfapmcpmfeigbaaDoor.Tm
open Go.RowKit Go Go.Proofs Go.Proofs.YtfapmcpmfeigbaaDoor Go.Proofs.YtfapmcpmfeigbaaDoor.Tr Go.Proofs.YtfapmcpmfeigbaaDoor.Tk Go.Proofs.YtfapmcpmfeigbaaDoorW.PrintWords Go.Proofs.YtfapmcpmfeigbaaDoorW.PrintLast Go.Proofs.YtfapmcpmfeigbaaDoorW.PrintMore
set_option linter.unusedVariables false
set_option linter.unusedSimpArgs false
variable {w : World} {t : St}
structure Ib (own : Bool) (S N : Nat) (w0 w : World) (g k z : Nat) (t : St) (A : Option Addr) (c : Nat) (kv ki : Int) : Prop where mk ::
 sb : Sb own S N w0 w g z t A c
 kk : w.heap[k]? = some (.cells #[.int .u64 kv, .int .i64 ki] 27 (0, 0))
 ne : k ≠ g
section
variable {own : Bool} {S N : Nat} {w0 w1 : World} {g k z : Nat} {A : Option Addr} {c : Nat} {kv ki : Int}
theorem Ib.below (h : Ib own S N w0 w g k z t A c kv ki) (hb : Below w.heap.size w w1) : Ib own S N w0 w1 g k z t A c kv ki := ⟨h.sb.below hb, zK h.kk hb, h.ne⟩
theorem Ib.drew (h : Ib own S N w0 w g k z t A c kv ki) : Ib own S N w0 w.drew g k z t A c kv ki := h.below (Below.drew (Below.refl _ _))
theorem Ib.tb (h : Ib own S N w0 w g k z t A c kv ki) : Tb own S N w g t A c := h.sb.tb
theorem Ib.zb (h : Ib own S N w0 w g k z t A c kv ki) : w.heap[z]? = some (.cells #[.int .i64 0, .slice none 0 0] 24 (0, 0)) := h.sb.zb
theorem Ib.sS (h : Ib own S N w0 w g k z t A c kv ki) : S ≤ w.heap.size := h.sb.sS
theorem Ib.sN (h : Ib own S N w0 w g k z t A c kv ki) : N ≤ w.heap.size := h.sb.sN
theorem Ib.a0 (h : Ib own S N w0 w g k z t A c kv ki) : w.cell? ⟨g, 0, none⟩ = some (.int .i64 t.rt) := h.sb.a0
theorem Ib.a1 (h : Ib own S N w0 w g k z t A c kv ki) : w.cell? ⟨g, 1, none⟩ = some (.slice A t.ns.length c) := h.sb.a1
theorem Ib.f (h : Ib own S N w0 w g k z t A c kv ki) (i : Nat) : w.frozen? ⟨g, i, none⟩ = false := h.sb.f i
theorem Ib.y0 (h : Ib own S N w0 w g k z t A c kv ki) : w.cell? ⟨z, 0, none⟩ = some (.int .i64 0) := h.sb.y0
theorem Ib.y1 (h : Ib own S N w0 w g k z t A c kv ki) : w.cell? ⟨z, 1, none⟩ = some (.slice none 0 0) := h.sb.y1
theorem Ib.yf (h : Ib own S N w0 w g k z t A c kv ki) (i : Nat) : w.frozen? ⟨z, i, none⟩ = false := h.sb.yf i
theorem Ib.k0 (h : Ib own S N w0 w g k z t A c kv ki) : w.cell? ⟨k, 0, none⟩ = some (.int .u64 kv) := (zF h.kk 0).trans rfl
theorem Ib.k1 (h : Ib own S N w0 w g k z t A c kv ki) : w.cell? ⟨k, 1, none⟩ = some (.int .i64 ki) := (zF h.kk 1).trans rfl
theorem Ib.some (h : Ib own S N w0 w g k z t A c kv ki) (h0 : 0 < t.ns.length) : ∃ ad, A = some ad := h.sb.some h0
theorem Ib.store {own2 : Bool} {t1 : St} {A1 : Option Addr} {c1 : Nat} (h : Ib own S N w0 w g k z t A c kv ki) (hv : Tv own2 S N w A1 c1 t1.ns) : Ib own2 S N w0 ((w.setCell ⟨g, 0, none⟩ (.int .i64 t1.rt)).setCell ⟨g, 1, none⟩ (.slice A1 t1.ns.length c1)) g k z t1 A1 c1 kv ki :=
 ⟨h.sb.store hv, set2_far h.kk h.ne _ _, h.ne⟩
theorem Ib.fin {t1 : St} {A1 : Option Addr} {c1 : Nat} {m : Int} (h : Ib own S w0.heap.size w0 w g k z t A c kv ki) (hv : Tv true S w0.heap.size w A1 c1 t1.ns) :
  kE w0 (t1, m) (.returned (.tuple #[.agg #[.int .i64 t1.rt, .slice A1 t1.ns.length c1], .int .i64 m])) ((w.setCell ⟨z, 0, none⟩ (.int .i64 t1.rt)).setCell ⟨z, 1, none⟩ (.slice A1 t1.ns.length c1)) :=
 ⟨_, rfl, ((hv.set h.sb.zb (by decide) (Nat.le_trans h.sb.s0 h.sb.z0) 0 _).set (qI h.sb.zb 0 _) (by decide) (Nat.le_trans h.sb.s0 h.sb.z0) 1 _).toR, kV h.sb.bb h.sb.z0 _ _⟩
theorem Ib.nil {m : Int} (h : Ib own S N w0 w g k z t A c kv ki) : kE w0 (⟨[], 0⟩, m) (.returned (.tuple #[.agg #[.int .i64 0, .slice none 0 0], .int .i64 m])) ((w.setCell ⟨z, 0, none⟩ (.int .i64 0)).setCell ⟨z, 1, none⟩ (.slice none 0 0)) :=
 kE.nil (kV h.sb.bb h.sb.z0 _ _)
end
structure URel (w w1 : World) (t : St) (A : Option Addr) (c : Nat) (kv ki : Int) (lt : Nat → Bool) (res : Int × Bool) (vu vs vx : Value) (wr : World) (k : Nat) : Prop where mk ::
 out : ∃ (up : Int) (s : Bool) (x : Int), vu = .int .i64 up ∧ vs = .int .i64 (sd s) ∧ vx = .int .i64 x ∧ up < t.ns.length ∧ x < t.ns.length ∧ jS k t lt x up s = some res ∧ Ib false w.heap.size w.heap.size w wr w.heap.size (w.heap.size + 1) (w.heap.size + 1 + 1) t A c kv ki
structure URl (w w1 : World) (t : St) (A : Option Addr) (c : Nat) (kv ki : Int) (lt : Nat → Bool) (res : Int × Bool) (vu vs vx : Value) (wr : World) : Prop where mk ::
 out : ∃ k, URel w w1 t A c kv ki lt res vu vs vx wr k
set_option maxHeartbeats 16000000 in
set_option maxRecDepth 100000 in
theorem rInsert_ (A : Option Addr) (c : Nat) (mn : Int) (kk : Tk.K) (r : St × Int) (hr : kn.C w A t.ns.length t.ns) (hlc : t.ns.length ≤ c) (hl : t.ns.length ≤ 1000000) (hf : insA t mn kk = some r) :
  Calls Tryd.prog 12 #[.agg #[.int .i64 t.rt, .slice A t.ns.length c], .int .u64 mn, .agg #[.int .u64 kk.1, .int .i64 kk.2]] w fun e w' => kE w r e w' := by
 have HR := zA.mk hr; have HLC := zA.mk hlc; have HL := zA.mk hl; have HF := zA.mk hf; clear hr hl hf hlc
 obtain ⟨kv, ki⟩ := kk
 simp only at HF ⊢
 go_enter Tryd.func12, Tryd.ntmps12
 go_upto_region 1 with (fail)
 have SB : zA (Ib false w.heap.size w.heap.size w (((w.alloc (.cells #[.int .i64 t.rt, .slice A t.ns.length c] 24)).alloc (.cells #[.int .u64 kv, .int .i64 ki] 27)).alloc (.cells #[.int .i64 0, .slice none 0 0] 24)) w.heap.size (w.heap.size + 1) (w.heap.size + 1 + 1) t A c kv ki) := by
  have H1 := yM w (.cells #[.int .i64 t.rt, .slice A t.ns.length c] 24)
  have H2 := yM (w.alloc (.cells #[.int .i64 t.rt, .slice A t.ns.length c] 24)) (.cells #[.int .u64 kv, .int .i64 ki] 27)
  have H3 := yM ((w.alloc (.cells #[.int .i64 t.rt, .slice A t.ns.length c] 24)).alloc (.cells #[.int .u64 kv, .int .i64 ki] 27)) (.cells #[.int .i64 0, .slice none 0 0] 24)
  simp only [World.size_alloc] at H2 H3
  have hB := zH (zH (zH (Below.refl w.heap.size w) (.cells #[.int .i64 t.rt, .slice A t.ns.length c] 24)) (.cells #[.int .u64 kv, .int .i64 ki] 27)) (.cells #[.int .i64 0, .slice none 0 0] 24)
  exact ⟨⟨⟨⟨zK (zK H1 (zH (Below.refl _ _) _)) (zH (Below.refl _ _) _), (Tv.of HR.out HLC.out (Nat.le_refl _)).below hB, Nat.le_refl _⟩, H3, hB, Nat.le_refl _, by omega, by omega, Nat.le_refl _, Nat.le_refl _⟩, zK H2 (zH (Below.refl _ _) _), by omega⟩⟩
 generalize ((w.alloc (.cells #[.int .i64 t.rt, .slice A t.ns.length c] 24)).alloc (.cells #[.int .u64 kv, .int .i64 ki] 27)).alloc (.cells #[.int .i64 0, .slice none 0 0] 24) = W1 at SB ⊢
 clear HR
 have a0 := SB.out.a0; have a1 := SB.out.a1; have f0 := SB.out.f 0; have f1 := SB.out.f 1; have y0 := SB.out.y0; have y1 := SB.out.y1; have yf0 := SB.out.yf 0; have yf1 := SB.out.yf 1; have k0 := SB.out.k0; have k1 := SB.out.k1
 cases hri : qO t mn with
 | false =>
  have hF := HF.out
  rw [insA, hri, if_pos rfl] at hF
  obtain rfl := Option.some.inj hF; have HRI := zA.mk hri; clear hF hri HF
  go_wp2_with (go_at_call 19; with_reducible refine (zbY (t := t) A c mn SB.out.tb.tv.rd HL.out).mono ?_; rintro e wq ⟨rfl, hB⟩; rw [HRI.out]; replace SB := zA.mk (SB.out.below hB); replace a0 := SB.out.a0; replace a1 := SB.out.a1; replace f0 := SB.out.f 0; replace f1 := SB.out.f 1; replace y0 := SB.out.y0; replace y1 := SB.out.y1; replace yf0 := SB.out.yf 0; replace yf1 := SB.out.yf 1; replace k0 := SB.out.k0; replace k1 := SB.out.k1; clear hB)
  refine bodyPost_ret (yL (cs := #[.int .i64 0, .slice none 0 0]) rfl _ _ (w.heap.size + 1 + 1) 24 (0, 0) _ rfl (set2 SB.out.zb rfl _ _) Tryd.underlying24 rfl (by kernel_rfl)) rfl ?_
  exact SB.out.nil
 | true =>
 have HRI := zA.mk hri
 have HOK := zA.mk (zam hri)
 have hF := HF.out
 rw [insA, hri, if_neg (by simp)] at hF
 have HF2 := zA.mk hF; clear hF hri HF
 go_upto_region 3 with ((go_at_call 19; with_reducible refine (zbY (t := t) A c mn SB.out.tb.tv.rd HL.out).mono ?_; rintro e wq ⟨rfl, hB⟩; rw [HRI.out]; replace SB := zA.mk (SB.out.below hB); replace a0 := SB.out.a0; replace a1 := SB.out.a1; replace f0 := SB.out.f 0; replace f1 := SB.out.f 1; replace y0 := SB.out.y0; replace y1 := SB.out.y1; replace yf0 := SB.out.yf 0; replace yf1 := SB.out.yf 1; replace k0 := SB.out.k0; replace k1 := SB.out.k1; clear hB))
 by_cases hbad : ki < 0 ∨ (t.ns.length : Int) ≤ ki ∨ (gn t ki.toNat).inn = true
 ·have hF := HF2.out
  rw [if_pos hbad] at hF
  obtain rfl := Option.some.inj hF; clear hF HF2
  by_cases b1 : ki < 0
  ·clear hbad
   go_wp2
   refine bodyPost_ret (yL (cs := #[.int .i64 0, .slice none 0 0]) rfl _ _ (w.heap.size + 1 + 1) 24 (0, 0) _ rfl (set2 SB.out.zb rfl _ _) Tryd.underlying24 rfl (by kernel_rfl)) rfl ?_
   exact SB.out.nil
  have b11 : decide (ki < 0) = false := decide_eq_false b1
  by_cases b2 : (t.ns.length : Int) ≤ ki
  ·clear hbad
   go_wp2
   refine bodyPost_ret (yL (cs := #[.int .i64 0, .slice none 0 0]) rfl _ _ (w.heap.size + 1 + 1) 24 (0, 0) _ rfl (set2 SB.out.zb rfl _ _) Tryd.underlying24 rfl (by kernel_rfl)) rfl ?_
   exact SB.out.nil
  have b12 : decide ((t.ns.length : Int) ≤ ki) = false := decide_eq_false b2
  have b3 := hbad.resolve_left b1 |>.resolve_left b2
  have g1 : 0 ≤ ki := by omega
  have g2 : ki < (t.ns.length : Int) := by omega
  obtain ⟨ad, rfl⟩ := SB.out.some (by omega)
  have d0 := (kH SB.out.tb.tv.rd ki g1 g2).1
  rw [b3] at d0
  clear hbad b3
  go_wp2
  refine bodyPost_ret (yL (cs := #[.int .i64 0, .slice none 0 0]) rfl _ _ (w.heap.size + 1 + 1) 24 (0, 0) _ rfl (set2 SB.out.zb rfl _ _) Tryd.underlying24 rfl (by kernel_rfl)) rfl ?_
  exact SB.out.nil
 have hF := HF2.out
 rw [if_neg hbad] at hF
 simp only [not_or] at hbad
 obtain ⟨b1, b2, b3⟩ := hbad
 have HF3 := zA.mk hF; clear hF HF2
 have b11 : decide (ki < 0) = false := decide_eq_false b1
 have b12 : decide ((t.ns.length : Int) ≤ ki) = false := decide_eq_false b2
 have g1 : 0 ≤ ki := by omega
 have g2 : ki < (t.ns.length : Int) := by omega
 have G1 := zA.mk g1; have G2 := zA.mk g2
 obtain ⟨ad, rfl⟩ := SB.out.some (by omega)
 have d0 := (kH SB.out.tb.tv.rd ki g1 g2).1
 rw [show (gn t ki.toNat).inn = false by simpa using b3] at d0
 clear b3
 go_upto_region 5 with (fail)
 clear d0 b1 b2 b11 b12
 obtain ⟨dres, hdn, hF4⟩ : ∃ dres, jS (t.ns.length + 2) t (ltA t mn (kv, ki)) t.rt (-1) false = some dres ∧ (match qC (t.ns.length + 2) (zZ (sn t ki.toNat (newN kv)) dres.1 dres.2 ki) ki with | none => none | some t' => some (t', (0 : Int))) = some r := by
  have h := HF3.out
  cases hd : jS (t.ns.length + 2) t (ltA t mn (kv, ki)) t.rt (-1) false with
  | none => rw [hd] at h; cases h
  | some d => rw [hd] at h; exact ⟨d, rfl, h⟩
 obtain ⟨t', hm, hr'⟩ : ∃ t', qC (t.ns.length + 2) (zZ (sn t ki.toNat (newN kv)) dres.1 dres.2 ki) ki = some t' ∧ r = (t', 0) := by
  cases hd : qC (t.ns.length + 2) (zZ (sn t ki.toNat (newN kv)) dres.1 dres.2 ki) ki with
  | none => rw [hd] at hF4; cases hF4
  | some t' => rw [hd] at hF4; exact ⟨t', rfl, (Option.some.inj hF4).symm⟩
 have HDN := zA.mk hdn; have HMD := zA.mk hm
 subst hr'
 clear hdn hF4 hm HF3
 go_upto_region 8 with (fail)
 clear a0 a1 f0 f1 y0 y1 yf0 yf1 k0 k1
 go_loopw [8, 9, 10] (fun vu vs vx wr => URl w w t (some ad) c kv ki (ltA t mn (kv, ki)) dres vu vs vx wr) (fun vu vs vx wr => least (URel w w t (some ad) c kv ki (ltA t mn (kv, ki)) dres vu vs vx wr))
 case atStart => exact ⟨t.ns.length + 2, -1, false, t.rt, rfl, rfl, rfl, by omega, HOK.out.rt, HDN.out, SB.out⟩
 case round =>
  clear SB
  have HRq := xE hrel.out
  obtain ⟨hR1, hR2⟩ := HRq
  generalize hlk : least _ = lk at hR1 ⊢
  obtain ⟨up, s, x, rfl, hvs, rfl, hup, hx, hdn, hSB⟩ := hR1.out
  obtain ⟨m, rfl⟩ : ∃ m, lk = m + 1 := by
   cases lk with
   | zero => simp [jS] at hdn
   | succ m => exact ⟨m, rfl⟩
  have HLK := zA.mk hlk
  rw [jS] at hdn
  have SB := zA.mk hSB; have HUP := zA.mk hup; have HX := zA.mk hx; clear hR2 hrel hR1 hup hSB hlk
  have a0 := SB.out.a0; have a1 := SB.out.a1; have f0 := SB.out.f 0; have f1 := SB.out.f 1; have y0 := SB.out.y0; have y1 := SB.out.y1; have yf0 := SB.out.yf 0; have yf1 := SB.out.yf 1; have k0 := SB.out.k0; have k1 := SB.out.k1
  by_cases hx0 : 0 ≤ x
  ·rw [if_pos hx0] at hdn
   subst hvs; have HD := zA.mk hdn; have H0 := zA.mk hx0; clear hdn
   obtain ⟨lt, hlt⟩ : ∃ lt, lt = ltA t mn (kv, ki) x.toNat := ⟨_, rfl⟩
   rw [← hlt] at HD
   have HLT := zA.mk (show decide (cvf mn (kv, ki) ((gn t x.toNat).v, x) < 0) = lt by rw [hlt]; unfold ltA; rw [show ((x.toNat : Nat) : Int) = x by omega])
   clear hlt
   have d2 := (kH SB.out.tb.tv.rd x hx0 hx).2.2.1
   go_upto_region 12 with (fail)
   go_still_tail 10, (by kernel_rfl)
   change wpList _ _ _ _ _ (World.drew _)
   replace SB := zA.mk SB.out.drew
   clear a0 a1 f0 f1 y0 y1 yf0 yf1 k0 k1
   generalize World.drew _ = V0 at SB ⊢
   have a0 := SB.out.a0; have a1 := SB.out.a1; have f0 := SB.out.f 0; have f1 := SB.out.f 1; have y0 := SB.out.y0; have y1 := SB.out.y1; have yf0 := SB.out.yf 0; have yf1 := SB.out.yf 1; have k0 := SB.out.k0; have k1 := SB.out.k1
   clear d2
   cases lt with
   | true =>
    go_wp2_with (first | (go_at_call 39; with_reducible refine (rless_ mn (kv, ki) ((gn t x.toNat).v, x)).mono ?_; rintro e wq ⟨rfl, hB⟩; rw [HLT.out]; replace SB := zA.mk (SB.out.below hB); replace a0 := SB.out.a0; replace a1 := SB.out.a1; replace f0 := SB.out.f 0; replace f1 := SB.out.f 1; replace y0 := SB.out.y0; replace y1 := SB.out.y1; replace yf0 := SB.out.yf 0; replace yf1 := SB.out.yf 1; replace k0 := SB.out.k0; replace k1 := SB.out.k1; clear hB) | (go_at_call 38; with_reducible refine (qV (t := t) (some ad) c SB.out.tb.tv.rd x H0.out HX.out false 0 rfl (kidA t x false) rfl).mono ?_; rintro e wq ⟨rfl, hB⟩; replace SB := zA.mk (SB.out.below hB); replace a0 := SB.out.a0; replace a1 := SB.out.a1; replace f0 := SB.out.f 0; replace f1 := SB.out.f 1; replace y0 := SB.out.y0; replace y1 := SB.out.y1; replace yf0 := SB.out.yf 0; replace yf1 := SB.out.yf 1; replace k0 := SB.out.k0; replace k1 := SB.out.k1; clear hB))
    have hq : URel w w t (some ad) c kv ki (ltA t mn (kv, ki)) dres (Value.int IntKind.i64 x) (Value.int IntKind.i64 0) (Value.int IntKind.i64 (kidA t x false)) _ m := ⟨x, false, kidA t x false, rfl, rfl, rfl, HX.out, HOK.out.kid _ _, HD.out, SB.out⟩
    refine ⟨⟨m, hq⟩, ?_⟩
    have h3 := (xE ⟨m, hq⟩).2 m hq
    exact Nat.lt_of_le_of_lt h3 (by rw [HLK.out]; omega)
   | false =>
    go_wp2_with (first | (go_at_call 39; with_reducible refine (rless_ mn (kv, ki) ((gn t x.toNat).v, x)).mono ?_; rintro e wq ⟨rfl, hB⟩; rw [HLT.out]; replace SB := zA.mk (SB.out.below hB); replace a0 := SB.out.a0; replace a1 := SB.out.a1; replace f0 := SB.out.f 0; replace f1 := SB.out.f 1; replace y0 := SB.out.y0; replace y1 := SB.out.y1; replace yf0 := SB.out.yf 0; replace yf1 := SB.out.yf 1; replace k0 := SB.out.k0; replace k1 := SB.out.k1; clear hB) | (go_at_call 38; with_reducible refine (qV (t := t) (some ad) c SB.out.tb.tv.rd x H0.out HX.out true 1 rfl (kidA t x true) rfl).mono ?_; rintro e wq ⟨rfl, hB⟩; replace SB := zA.mk (SB.out.below hB); replace a0 := SB.out.a0; replace a1 := SB.out.a1; replace f0 := SB.out.f 0; replace f1 := SB.out.f 1; replace y0 := SB.out.y0; replace y1 := SB.out.y1; replace yf0 := SB.out.yf 0; replace yf1 := SB.out.yf 1; replace k0 := SB.out.k0; replace k1 := SB.out.k1; clear hB))
    have hq : URel w w t (some ad) c kv ki (ltA t mn (kv, ki)) dres (Value.int IntKind.i64 x) (Value.int IntKind.i64 1) (Value.int IntKind.i64 (kidA t x true)) _ m := ⟨x, true, kidA t x true, rfl, rfl, rfl, HX.out, HOK.out.kid _ _, HD.out, SB.out⟩
    refine ⟨⟨m, hq⟩, ?_⟩
    have h3 := (xE ⟨m, hq⟩).2 m hq
    exact Nat.lt_of_le_of_lt h3 (by rw [HLK.out]; omega)
  rw [if_neg hx0] at hdn
  obtain rfl := Option.some.inj hdn
  have hx1 : decide (0 ≤ x) = false := decide_eq_false hx0
  simp only at HMD
  obtain ⟨zs, hzs⟩ : ∃ zs, zs = sd s := ⟨_, rfl⟩
  have HZ := zA.mk hzs.symm
  rw [← hzs] at hvs
  subst hvs; clear hdn hzs
  go_upto_region 17 with (go_at_call 40; with_reducible refine (rempty_).mono ?_; rintro e wq ⟨rfl, hB⟩; replace SB := zA.mk (SB.out.below hB); replace a0 := SB.out.a0; replace a1 := SB.out.a1; replace f0 := SB.out.f 0; replace f1 := SB.out.f 1; replace y0 := SB.out.y0; replace y1 := SB.out.y1; replace yf0 := SB.out.yf 0; replace yf1 := SB.out.yf 1; replace k0 := SB.out.k0; replace k1 := SB.out.k1; clear hB)
  have k9 := yZ SB.out.k0 (zH (Below.refl wq.heap.size wq) (.cells #[.bool true, .bool true, .int .u64 0, .int .i64 (-1), .int .i64 (-1), .int .i64 (-1)] 57))
  go_upto_region 18 with (fail)
  clear k9
  have HN : zA ((wq.alloc (.cells #[.bool true, .bool true, .int .u64 kv, .int .i64 (-1), .int .i64 (-1), .int .i64 (-1)] 57)).heap[wq.heap.size]? = some (.cells #[.bool true, .bool true, .int .u64 kv, .int .i64 (-1), .int .i64 (-1), .int .i64 (-1)] 57 (0, 0))) := ⟨yM _ _⟩
  replace SB := zA.mk (SB.out.below (zH (Below.refl _ _) (.cells #[.bool true, .bool true, .int .u64 kv, .int .i64 (-1), .int .i64 (-1), .int .i64 (-1)] 57)))
  clear a0 a1 f0 f1 y0 y1 yf0 yf1 k0 k1
  generalize wq.alloc (.cells #[.bool true, .bool true, .int .u64 kv, .int .i64 (-1), .int .i64 (-1), .int .i64 (-1)] 57) = V1 at SB HN ⊢
  generalize wq.heap.size = gn_ at HN ⊢
  have a0 := SB.out.a0; have a1 := SB.out.a1; have f0 := SB.out.f 0; have f1 := SB.out.f 1; have y0 := SB.out.y0; have y1 := SB.out.y1; have yf0 := SB.out.yf 0; have yf1 := SB.out.yf 1; have k0 := SB.out.k0; have k1 := SB.out.k1
  obtain ⟨t1, ht1⟩ : ∃ t1, t1 = sn t ki.toNat (newN kv) := ⟨_, rfl⟩
  have HT1 := zA.mk (show sn t ki.toNat ⟨true, true, kv, -1, -1, -1⟩ = t1 by rw [ht1]; rfl)
  have LT1 := zA.mk (show t1.ns.length = t.ns.length by rw [ht1, qA])
  have OT1 := zA.mk (show Ok t1 by rw [ht1]; exact HOK.out.sn _ _ (by have := G2.out; have := G1.out; omega) (by have := G2.out; have := G1.out; show (-1 : Int) < _ ∧ (-1 : Int) < _ ∧ (-1 : Int) < _; omega))
  rw [← ht1] at HMD
  clear ht1
  obtain ⟨t2, ht2⟩ : ∃ t2, t2 = zZ t1 up s ki := ⟨_, rfl⟩
  have HT2 := zA.mk ht2.symm
  have LT2 := zA.mk (show t2.ns.length = t.ns.length by rw [ht2, yI]; exact LT1.out)
  have OT2 := zA.mk (show Ok t2 by rw [ht2]; exact OT1.out.hang up s ki (by rw [LT1.out]; exact HUP.out) (by rw [LT1.out]; exact G2.out))
  rw [← ht2] at HMD
  clear ht2
  have hgd : decide (0 ≤ ki) = true := decide_eq_true G1.out
  refine jQ (n := 11) (S := fun w' => w'.cell? ⟨w.heap.size, 0, none⟩ = some (.int .i64 t.rt) ∧ w'.cell? ⟨w.heap.size, 1, none⟩ = some (.slice (some ad) t.ns.length c) ∧ w'.cell? ⟨w.heap.size + 1, 1, none⟩ = some (.int .i64 ki) ∧ w'.cell? ⟨gn_, 0, none⟩ = some (.bool true) ∧ w'.cell? ⟨gn_, 1, none⟩ = some (.bool true) ∧ w'.cell? ⟨gn_, 2, none⟩ = some (.int .u64 kv) ∧ w'.cell? ⟨gn_, 3, none⟩ = some (.int .i64 (-1)) ∧ w'.cell? ⟨gn_, 4, none⟩ = some (.int .i64 (-1)) ∧ w'.cell? ⟨gn_, 5, none⟩ = some (.int .i64 (-1))) (ds := [10]) #[false, false, false, false, false, false, false, false, false, false, false] (by kernel_rfl) rfl rfl ⟨SB.out.drew.a0, SB.out.drew.a1, SB.out.drew.k1, (zF (show (World.drew _).heap[_]? = _ from HN.out) 0).trans rfl, (zF (show (World.drew _).heap[_]? = _ from HN.out) 1).trans rfl, (zF (show (World.drew _).heap[_]? = _ from HN.out) 2).trans rfl, (zF (show (World.drew _).heap[_]? = _ from HN.out) 3).trans rfl, (zF (show (World.drew _).heap[_]? = _ from HN.out) 4).trans rfl, (zF (show (World.drew _).heap[_]? = _ from HN.out) 5).trans rfl⟩ (fun hHeld => ?_)
  replace SB := zA.mk SB.out.drew; replace HN := zA.mk (zC HN.out 1); change zA ((World.drew _).heap[_]? = _) at HN
  clear a0 a1 f0 f1 y0 y1 yf0 yf1 k0 k1
  generalize World.drew _ = V2 at SB HN hHeld ⊢
  have a0 := SB.out.a0; have a1 := SB.out.a1; have f0 := SB.out.f 0; have f1 := SB.out.f 1; have y0 := SB.out.y0; have y1 := SB.out.y1; have yf0 := SB.out.yf 0; have yf1 := SB.out.yf 1; have k0 := SB.out.k0; have k1 := SB.out.k1
  refine x9 (i := 0) (N := some 64) (v := ?_) (a' := ?_) #[true, false, false, false, false, false, false, false, false, false, false] rfl rfl (by kernel_rfl) (fun _ _ _ h => h) (Or.inl ⟨by rfl, ?_⟩) hHeld ?_ ?_
  rotate_left
  ·rintro w' ⟨s0, s1, s2, s3, s4, s5, s6, s7, s8⟩
   go_simp
   with_reducible rfl
  rotate_left
  ·(simp only [Act.put, List.setIfInBounds_toArray, List.set_cons_zero, List.set_cons_succ, zU, zV]; rfl)
  refine yB (i := 1) (N := some 65) (v := ?_) (a' := ?_) #[true, true, false, false, false, false, false, false, false, false, false] rfl rfl (by kernel_rfl) (fun _ _ _ h => h) (Or.inl ⟨by rfl, ?_⟩) ?_ ?_
  rotate_left
  ·intro w'
   go_simp
   with_reducible rfl
  rotate_left
  ·(simp only [Act.put, List.setIfInBounds_toArray, List.set_cons_zero, List.set_cons_succ, zU, zV]; rfl)
  refine x9 (i := 2) (N := some 66) (v := ?_) (a' := ?_) #[true, true, true, false, false, false, false, false, false, false, false] rfl rfl (by kernel_rfl) (fun _ _ _ h => h) (Or.inl ⟨by rfl, ?_⟩) hHeld ?_ ?_
  rotate_left
  ·rintro w' ⟨s0, s1, s2, s3, s4, s5, s6, s7, s8⟩
   go_simp
   with_reducible rfl
  rotate_left
  ·(simp only [Act.put, List.setIfInBounds_toArray, List.set_cons_zero, List.set_cons_succ, zU, zV]; rfl)
  refine x9 (i := 3) (N := some 67) (v := ?_) (a' := ?_) #[true, true, true, true, false, false, false, false, false, false, false] rfl rfl (by kernel_rfl) (fun _ _ _ h => h) (Or.inl ⟨by rfl, ?_⟩) hHeld ?_ ?_
  rotate_left
  ·rintro w' ⟨s0, s1, s2, s3, s4, s5, s6, s7, s8⟩
   go_simp
   with_reducible rfl
  rotate_left
  ·(simp only [Act.put, List.setIfInBounds_toArray, List.set_cons_zero, List.set_cons_succ, zU, zV]; rfl)
  refine yB (i := 5) (N := some 69) (v := ?_) (a' := ?_) #[true, true, true, true, false, true, false, false, false, false, false] rfl rfl (by kernel_rfl) (fun _ _ _ h => h) (Or.inl ⟨by rfl, ?_⟩) ?_ ?_
  rotate_left
  ·intro w'
   go_simp
   with_reducible rfl
  rotate_left
  ·(simp only [Act.put, List.setIfInBounds_toArray, List.set_cons_zero, List.set_cons_succ, zU, zV]; rfl)
  refine yB (i := 6) (N := some 70) (v := ?_) (a' := ?_) #[true, true, true, true, false, true, true, false, false, false, false] rfl rfl (by kernel_rfl) (fun _ _ _ h => h) (Or.inl ⟨by rfl, ?_⟩) ?_ ?_
  rotate_left
  ·intro w'
   go_simp
   with_reducible rfl
  rotate_left
  ·(simp only [Act.put, List.setIfInBounds_toArray, List.set_cons_zero, List.set_cons_succ, zU, zV]; rfl)
  refine yB (i := 7) (N := some 71) (v := ?_) (a' := ?_) #[true, true, true, true, false, true, true, true, false, false, false] rfl rfl (by kernel_rfl) (fun _ _ _ h => h) (Or.inl ⟨by rfl, ?_⟩) ?_ ?_
  rotate_left
  ·intro w'
   go_simp
   with_reducible rfl
  rotate_left
  ·(simp only [Act.put, List.setIfInBounds_toArray, List.set_cons_zero, List.set_cons_succ, zU, zV]; rfl)
  refine x9 (i := 8) (N := some 72) (v := ?_) (a' := ?_) #[true, true, true, true, false, true, true, true, true, false, false] rfl rfl (by kernel_rfl) (fun _ _ _ h => h) (Or.inl ⟨by rfl, ?_⟩) hHeld ?_ ?_
  rotate_left
  ·rintro w' ⟨s0, s1, s2, s3, s4, s5, s6, s7, s8⟩
   go_simp
   with_reducible rfl
  rotate_left
  ·(simp only [Act.put, List.setIfInBounds_toArray, List.set_cons_zero, List.set_cons_succ, zU, zV]; rfl)
  refine one_ (i := 4) (N := some 68) #[true, true, true, true, true, true, true, true, true, false, false] rfl rfl (by kernel_rfl) (by decide) (fun K hK => ?_)
  refine qF Tryd.func42 (by kernel_rfl) rfl #[.agg #[.int .i64 t.rt, .slice (some ad) t.ns.length c], .int .i64 ki, .agg #[.bool true, .bool true, .int .u64 kv, .int .i64 (-1), .int .i64 (-1), .int .i64 (-1)]] (by rfl) rfl rfl (by (try simp only [List.map_toArray, List.map_cons, List.map_nil]); first | done | rfl) ?_
  with_reducible refine (zbI (own := true) (S := w.heap.size) (N := w.heap.size) (t := t) _ c SB.out.tb.tv.rd SB.out.sS SB.out.sN HL.out ki G1.out G2.out ⟨true, true, kv, -1, -1, -1⟩).mono ?_
  rintro e wq ⟨A1, c1, rfl, hTq, hB⟩
  refine ⟨_, rfl, ?_⟩
  rw [HT1.out] at hTq
  have TV := zA.mk hTq
  replace SB := zA.mk (SB.out.below hB); replace HN := zA.mk (zK HN.out hB); replace a0 := SB.out.a0; replace a1 := SB.out.a1; replace f0 := SB.out.f 0; replace f1 := SB.out.f 1; replace y0 := SB.out.y0; replace y1 := SB.out.y1; replace yf0 := SB.out.yf 0; replace yf1 := SB.out.yf 1; replace k0 := SB.out.k0; replace k1 := SB.out.k1
  rw [HT1.out]
  clear hTq hB
  refine hK.out _ _ ⟨SB.out.a0, SB.out.a1, SB.out.k1, (zF HN.out 0).trans rfl, (zF HN.out 1).trans rfl, (zF HN.out 2).trans rfl, (zF HN.out 3).trans rfl, (zF HN.out 4).trans rfl, (zF HN.out 5).trans rfl⟩ (fun hHeld => ?_)
  clear hK K
  refine xA (a' := ?_) ?_ ?_
  rotate_left
  ·(show Act.put _ (some 68) _ = _; (simp only [Act.put, List.setIfInBounds_toArray, List.set_cons_zero, List.set_cons_succ, zU, zV]; rfl))
  refine one_ (i := 9) (N := some 73) #[true, true, true, true, true, true, true, true, true, true, false] rfl rfl (by kernel_rfl) (by decide) (fun K hK => ?_)
  refine qF Tryd.func41 (by kernel_rfl) rfl #[.agg #[.int .i64 t1.rt, .slice A1 t1.ns.length c1], .int .i64 up, .int .i64 zs, .int .i64 ki] (by rfl) rfl rfl (by (try simp only [List.map_toArray, List.map_cons, List.map_nil]); first | done | rfl) ?_
  with_reducible refine (qZ (own := true) (S := w.heap.size) (N := w.heap.size) (t := t1) A1 c1 TV.out SB.out.sS SB.out.sN (by rw [LT1.out]; exact HL.out) up (by rw [LT1.out]; exact HUP.out) s zs HZ.out ki (by rw [LT1.out]; exact G2.out)).mono ?_
  rintro e wq ⟨A2, c2, rfl, hTq, hB⟩
  refine ⟨_, rfl, ?_⟩
  rw [HT2.out] at hTq
  have TV := zA.mk hTq
  replace SB := zA.mk (SB.out.below hB); replace HN := zA.mk (zK HN.out hB); replace a0 := SB.out.a0; replace a1 := SB.out.a1; replace f0 := SB.out.f 0; replace f1 := SB.out.f 1; replace y0 := SB.out.y0; replace y1 := SB.out.y1; replace yf0 := SB.out.yf 0; replace yf1 := SB.out.yf 1; replace k0 := SB.out.k0; replace k1 := SB.out.k1
  rw [HT2.out]
  clear hTq hB
  refine hK.out _ _ ⟨SB.out.a0, SB.out.a1, SB.out.k1, (zF HN.out 0).trans rfl, (zF HN.out 1).trans rfl, (zF HN.out 2).trans rfl, (zF HN.out 3).trans rfl, (zF HN.out 4).trans rfl, (zF HN.out 5).trans rfl⟩ (fun hHeld => ?_)
  clear hK K
  refine xA (a' := ?_) ?_ ?_
  rotate_left
  ·(show Act.put _ (some 73) _ = _; (simp only [Act.put, List.setIfInBounds_toArray, List.set_cons_zero, List.set_cons_succ, zU, zV]; rfl))
  refine last_ (i := 10) (N := none) #[true, true, true, true, true, true, true, true, true, true, true] rfl rfl (by kernel_rfl) (by decide) (fun K hK => ?_)
  refine zab (w1 := ?_) (by rfl) rfl ?_ ?_
  rotate_left
  ·go_simp
   rfl
  refine hK.out _ _ ?_
  clear hK K
  refine vJ (by kernel_rfl) ?_
  replace SB := zA.mk (SB.out.store TV.out)
  clear a0 a1 f0 f1 y0 y1 yf0 yf1 k0 k1
  generalize World.setCell _ _ _ = V3 at SB ⊢
  clear TV
  have a0 := SB.out.a0; have a1 := SB.out.a1; have f0 := SB.out.f 0; have f1 := SB.out.f 1; have y0 := SB.out.y0; have y1 := SB.out.y1; have yf0 := SB.out.yf 0; have yf1 := SB.out.yf 1; have k0 := SB.out.k0; have k1 := SB.out.k1
  go_upto_region 19 with (fail)
  go_wp2_with (go_at_call 43; with_reducible refine (rmend_ (own := true) (S := w.heap.size) (N := w.heap.size) (t := t2) A2 c2 SB.out.tb.tv SB.out.sS SB.out.sN (by rw [LT2.out]; exact HL.out) OT2.out ki G1.out (by rw [LT2.out]; exact G2.out) (t.ns.length + 2) t' HMD.out).mono ?_; rintro e wq ⟨A3, c3, rfl, hTq, hB⟩; have TV := zA.mk hTq; replace SB := zA.mk (SB.out.below hB); replace a0 := SB.out.a0; replace a1 := SB.out.a1; replace f0 := SB.out.f 0; replace f1 := SB.out.f 1; replace y0 := SB.out.y0; replace y1 := SB.out.y1; replace yf0 := SB.out.yf 0; replace yf1 := SB.out.yf 1; replace k0 := SB.out.k0; replace k1 := SB.out.k1; clear hTq hB)
  refine bodyPost_ret (yL (cs := #[.int .i64 t'.rt, .slice A3 t'.ns.length c3]) rfl _ _ (w.heap.size + 1 + 1) 24 (0, 0) _ rfl (set2 SB.out.zb rfl _ _) Tryd.underlying24 rfl (by kernel_rfl)) rfl ?_
  exact SB.out.fin TV.out
end Go.Proofs.YtfapmcpmfeigbaaDoor.Tm
